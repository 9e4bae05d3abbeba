/- ReadyIn, MayCache, IsQuiet, BreaksFor. Conditions: none. -/
import Derived.Test.YtinageiefahjfaaDoorUl
import Derived.Test.YtinageiefahjfaaDoorRb
namespace Go.Proofs.YtinageiefahjfaaDoor
set_option linter.unusedSimpArgs false
set_option linter.unusedVariables false
set_option maxRecDepth 4000
section
variable {G : Glob} {bb : Bool}
theorem did_len (gs : List Gr) (c k : Int) : (did gs c k).length ≤ gs.length + 1 := by
  unfold did
  split
  · rw [ins_len]; omega
  · omega
theorem Srt_br {gs : List Gr} (hs : Srt gs) (c k : Int) : Srt (brGs gs c k) := Srt_map (fun g => brG_c _ _ g) hs
theorem Srt_did {gs : List Gr} (hs : Srt gs) (c k : Int) : Srt (did gs c k) := by
  unfold did
  split
  · rename_i h; exact Srt_ins hs h.2
  · exact hs
abbrev twoA (d : Bool) (b : List Br) : AV := .tup [.one (.dc (.raw (.bool d))), .one (.dc (.slc (b.map Br.e)))]
theorem use_v (hG : G 0 = some alD) (gs : List Gr) (ws : List Wt) (hs : Srt gs) (c k : Int) (hk : kOK k) (hl : gs.length ≤ 100000) (hw : ws.length ≤ 100000) :
    EV G (Tb (bs bb)) 52 [.one (.ptr 0 0), (Wt.mk c k).v] (fileH gs ws) = some (twoA (useF gs ws c k).2.2.d (useF gs ws c k).2.2.b, fileH (useF gs ws c k).1 (useF gs ws c k).2.1) := by
  refine EV_run rfl ?_
  unfold useF
  have e1 := brGs_len gs c k
  by_cases h0 : ws.length = 0
  · rw [if_pos h0]
    have h0' : (ws.length : Int) = 0 := by omega
    have q1 := breaks_v (G := G) (bb := bb) hG gs ws c k hk (by omega)
    have q2 := held_v (G := G) (bb := bb) hG (brGs gs c k) ws c k hk (by omega)
    have q3 := done_v (G := G) (bb := bb) (brGs gs c k) ws (Srt_br hs c k) c k (by omega)
    simp only [fileH, e1] at q1 q3
    have tk : ((brGs gs c k).map Gr.e).take gs.length = (brGs gs c k).map Gr.e := List.take_of_length_le (by rw [List.length_map, e1]; omega)
    cases hh : held (brGs gs c k) c k with
    | true =>
      rw [if_pos rfl]
      rw [hh] at q2
      simp (disch := omega) only [go_sem, h52c, q1, q2, e1, tk, eq_true h0', fileH]
      obtain rfl := List.length_eq_zero_iff.1 h0
      rfl
    | false =>
      rw [if_neg (by simp)]
      rw [hh] at q2
      simp (disch := omega) only [go_sem, h52c, q1, q2, q3, e1, tk, eq_true h0', fileH]
      obtain rfl := List.length_eq_zero_iff.1 h0
      rfl
  · rw [if_neg h0]
    simp (disch := omega) only [go_sem, h52c, h0, fileH]
    rw [List.length_append, List.map_append]
    rfl
theorem fnK_of {call : CallT} {a : HC} {L : List Nat} {m : Nat} {r : Option (Exit × AS)} {s : AS} (h : rnK L m r = some s) : fnK call G a L m r = EL call G a L m s := by
  unfold rnK at h
  split at h
  · injection h with h; rw [← h]; rfl
  · cases h
theorem delW_v (w : Wt) (ws : List Wt) (hl : ws.length ≤ 1000000) : EV G (Tb (bs bb)) 76 [.one (.bld 0 (w :: ws).length), vi 0, vi 1] [.arr 0 2 ((w :: ws).map Wt.e)] = some (.one (.bld 0 ws.length), [.arr 0 2 (ws.map Wt.e)]) := by
  refine EV_base rfl ?_
  rw [show (Tb (bs bb)).base = bs bb from rfl]
  unfold bs
  rw [if_neg (by decide), if_pos rfl]
  unfold delK
  show (if _ then _ else _) = _
  rw [if_pos ⟨rfl, by omega, by omega, by simp, by simp, by simp; omega⟩]
  have e : (ws.map Wt.e).take ws.length = ws.map Wt.e := List.take_of_length_le (by simp)
  simp [e]
theorem delG_v (gs : List Gr) (i : Nat) (hi : i < gs.length) (hl : gs.length ≤ 1000000) : EV G (Tb (bs bb)) 51 [.one (.bld 0 gs.length), vi i, vi ((i : Int) + 1)] [.arr 0 3 (gs.map Gr.e)] = some (.one (.bld 0 (gs.length - 1)), [.arr 0 3 ((gs.take i ++ gs.drop (i + 1)).map Gr.e)]) := by
  refine EV_base rfl ?_
  rw [show (Tb (bs bb)).base = bs bb from rfl]
  unfold bs
  rw [if_pos rfl]
  unfold delK
  show (if _ then _ else _) = _
  rw [if_pos ⟨rfl, by omega, by omega, by simpa using hi, by simp, by simp; omega⟩]
  have e : (gs.map Gr.e).take gs.length = gs.map Gr.e := List.take_of_length_le (by simp)
  simp [e]
theorem allLen_br : ∀ gs : List Br, allLen 2 (gs.map Br.e) = true
  | [] => rfl
  | g :: gs => by rw [List.map_cons, allLen, allLen_br gs]; rfl
abbrev thrH (gs : List Gr) (ws : List Wt) (b : List Br) (f : List Wt) : List AObj := [.box [.bld 1 gs.length, .bld 2 ws.length], .arr 0 3 (gs.map Gr.e), .arr 0 2 (ws.map Wt.e), .arr 0 2 (b.map Br.e), .arr 0 2 (f.map Wt.e)]
def thrS (gs : List Gr) (ws : List Wt) (b : List Br) (f : List Wt) : AS := ⟨(.one (.ptr 0 0) :: jk 1 (.one (.bld 3 b.length) :: .one (.bld 4 f.length) :: jk 42 [])), thrH gs ws b f⟩
abbrev twoB (b : List Br) (f : List Wt) : AV := .tup [.one (.dc (.slc (b.map Br.e))), .one (.dc (.slc (f.map Wt.e)))]
theorem thr_key (hG : G 0 = some alD) : ∀ (ws : List Wt) (gs : List Gr) (b : List Br) (f : List Wt), Srt gs → (∀ w ∈ ws, kOK w.k) → gs.length + ws.length ≤ 1000 → b.length + 1000 * ws.length ≤ 10000000 → f.length + ws.length ≤ 1000000 →
    retZ false [RetV.tmp 2, RetV.tmp 3] 3 (sqK (EV G (Tb (bs bb))) G ((HC.region [Oo 44 (AI.mov (AArg.t 2)), Oo 45 (AI.mov (AArg.t 3)), Oo 2 (AI.mov (AArg.t 44)), Oo 3 (AI.mov (AArg.t 45))]).seq HC.ret) (blkK 0 (EL (EV G (Tb (bs bb))) G h50l0 [0, 1, 0] 5 (thrS gs ws b f)))) =
      some (twoB (b ++ (thr gs ws).2.2.1) (f ++ (thr gs ws).2.2.2), fileH (thr gs ws).1 (thr gs ws).2.1)
  | [], gs, b, f, hs, hk, hl, hb, hf => by
    rw [EL_unf, thr]
    unfold thrS
    simp only [List.append_nil]
    have hn : (([] : List Wt).length : Int) = 0 := rfl
    generalize ([] : List Wt) = W at *
    simp (disch := omega) only [go_sem, h50l0, eq_true hn, List.take_length]
  | w :: ws, gs, b, f, hs, hk, hl, hb, hf => by
    have hkw := hk w List.mem_cons_self
    have e1 := brGs_len gs w.c w.k
    have hbl := brBs_len gs w.c w.k
    have hdl := did_len (brGs gs w.c w.k) w.c w.k
    simp only [List.length_cons] at hl hb hf
    have q1 := breaks_v (G := G) (bb := bb) hG gs (w :: ws) w.c w.k hkw (by omega)
    have q2 := held_v (G := G) (bb := bb) hG (brGs gs w.c w.k) (w :: ws) w.c w.k hkw (by omega)
    have q3 := done_v (G := G) (bb := bb) (brGs gs w.c w.k) (w :: ws) (Srt_br hs w.c w.k) w.c w.k (by omega)
    have q4 := delW_v (G := G) (bb := bb) w ws (by omega)
    have e0 : ((w :: ws).map Wt.e)[0]? = some [ci w.c, ci w.k] := rfl
    have hn : ¬ (w :: ws).length = 0 := by simp
    have tk : ((brGs gs w.c w.k).map Gr.e).take gs.length = (brGs gs w.c w.k).map Gr.e := List.take_of_length_le (by rw [List.length_map, e1]; omega)
    have tk2 : List.take (b.length + (brBs gs w.c w.k).length) (b.map Br.e ++ (brBs gs w.c w.k).map Br.e) = (b ++ brBs gs w.c w.k).map Br.e := by
      rw [← List.map_append]; exact List.take_of_length_le (by simp)
    simp only [fileH, e1] at q1 q3
    have hWl : (w :: ws).length ≤ 1000 := by simp; omega
    cases hh : held (brGs gs w.c w.k) w.c w.k with
    | true =>
      rw [EL_unf, thr, if_pos hh]
      unfold thrS
      rw [hh] at q2
      generalize w :: ws = W at *
      simp (disch := omega) only [go_sem, h50l0, hn, e0, q1, q2, q3, q4, e1, tk, List.take_length, allLen_br, tk2, List.length_append, Nat.le_refl]
      unfold fileH
      rw [e1]
    | false =>
      have ih := thr_key hG ws (did (brGs gs w.c w.k) w.c w.k) (b ++ brBs gs w.c w.k) (f ++ [w]) (Srt_did (Srt_br hs w.c w.k) w.c w.k) (fun x hx => hk x (List.mem_cons_of_mem _ hx)) (by omega) (by rw [List.length_append]; omega) (by rw [List.length_append]; simp; omega)
      have hr : rnK [0, 1, 0] 5 (EC (EV G (Tb (bs bb))) G h50l0 (thrS gs (w :: ws) b f)) = some (thrS (did (brGs gs w.c w.k) w.c w.k) ws (b ++ brBs gs w.c w.k) (f ++ [w])) := by
        unfold thrS thrH
        rw [hh] at q2
        generalize w :: ws = W at *
        simp (disch := omega) only [go_sem, h50l0, hn, e0, q1, q2, q3, q4, e1, tk, List.take_length, allLen_br, tk2, List.length_append, Nat.le_refl, List.map_append, List.length_cons, List.length_nil, List.map_cons, List.map_nil, Wt.e]
      rw [EL_unf, fnK_of hr, ih, thr, if_neg (by rw [hh]; simp)]
      simp only [List.append_assoc, List.cons_append, List.nil_append]
theorem thr_v (hG : G 0 = some alD) (gs : List Gr) (ws : List Wt) (hs : Srt gs) (hk : ∀ w ∈ ws, kOK w.k) (hl : gs.length + ws.length ≤ 1000) :
    EV G (Tb (bs bb)) 50 [.one (.ptr 0 0)] (fileH gs ws) = some (twoB (thr gs ws).2.2.1 (thr gs ws).2.2.2, fileH (thr gs ws).1 (thr gs ws).2.1) := by
  refine EV_run rfl ?_
  have q := thr_key (bb := bb) hG ws gs [] [] hs hk (by omega) (by simp; omega) (by simp; omega)
  rw [List.nil_append, List.nil_append] at q
  rw [← q]
  simp (disch := omega) only [go_sem, h50c, fileH]
  rfl
end
section
variable {G : Glob} {bb : Bool}
def An.e (a : An) : List DC := [.raw (.bool a.d), .slc (a.b.map Br.e), .slc (a.f.map Wt.e)]
abbrev An.v (a : An) : AV := .agg [.dc (.raw (.bool a.d)), .dc (.slc (a.b.map Br.e)), .dc (.slc (a.f.map Wt.e))]
theorem req_map (gs : List Gr) (c l : Int) : (reqG gs c l).map Gr.e = (gs.map Gr.e).set (pos gs c) [ci (grE gs c).c, ci l, ci l] := by
  unfold reqG; rw [List.map_set]; rfl
theorem ack_map (gs : List Gr) (c : Int) : (ackG gs c).map Gr.e = (gs.map Gr.e).set (pos gs c) [ci (grE gs c).c, ci (grE gs c).t, ci (grE gs c).t] := by
  unfold ackG; rw [List.map_set]; rfl
theorem req_len (gs : List Gr) (c l : Int) : (reqG gs c l).length = gs.length := by simp [reqG]
theorem ack_len (gs : List Gr) (c : Int) : (ackG gs c).length = gs.length := by simp [ackG]
theorem Srt_set {gs : List Gr} (hs : Srt gs) {c : Int} (hi : isIn gs c = true) (g' : Gr) (hg : g'.c = c) : Srt (gs.set (pos gs c) g') := by
  obtain ⟨f, h1, h2, _, _⟩ := set_map hs hi g' hg
  rw [h1]
  exact Srt_map h2 hs
theorem Srt_del {gs : List Gr} (hs : Srt gs) {c : Int} (hi : isIn gs c = true) : Srt (delG gs c) := by
  rw [delG_eq hs hi]
  exact List.Pairwise.sublist List.filter_sublist hs
theorem del_len {gs : List Gr} (hs : Srt gs) {c : Int} (hi : isIn gs c = true) : (delG gs c).length = gs.length - 1 := by
  obtain ⟨hp, he⟩ := (isIn_iff hs c).1 hi
  simp [delG]; omega
theorem thA_1 (p : List Gr × List Wt × List Br × List Wt) : (thA p).1 = p.1 := rfl
theorem thA_2 (p : List Gr × List Wt × List Br × List Wt) : (thA p).2.1 = p.2.1 := rfl
theorem useF_f (gs : List Gr) (ws : List Wt) (c k : Int) : (useF gs ws c k).2.2.f = [] := by
  unfold useF
  split
  · split <;> rfl
  · rfl
set_option maxHeartbeats 2000000 in
theorem step_v (hG : G 0 = some alD) (gs : List Gr) (ws : List Wt) (a : Ac) (hs : Srt gs) (hk : ∀ w ∈ ws, kOK w.k) (ha : 0 ≤ a.k ∧ a.k ≤ 5) (hi : a.k ≠ 0 → isIn gs a.c = true) (hl : gs.length + ws.length ≤ 900) :
    EV G (Tb (bs bb)) 23 [.one (.ptr 0 0), a.v] (fileH gs ws) = some (An.v (stp gs ws a).2.2, fileH (stp gs ws a).1 (stp gs ws a).2.1) := by
  refine EV_run rfl ?_
  have q := place_v (G := G) (bb := bb) ws hs (by omega) a.c
  unfold stp
  by_cases k1 : a.k = 1
  · rw [if_pos k1]
    have h := hi (by omega)
    obtain ⟨hp, he⟩ := (isIn_iff hs a.c).1 h
    have eg : (gs.map Gr.e)[pos gs a.c]? = some [ci (grE gs a.c).c, ci (grE gs a.c).l, ci (grE gs a.c).t] := by rw [List.getElem?_map, List.getElem?_eq_getElem hp, grE, grAt gs _ hp]; rfl
    have hp' : pos gs a.c < (gs.map Gr.e).length := by simpa using hp
    have e1 := fun x => set_get (x := x) hp'
    simp only [fileH, req_map, req_len]
    simp (disch := omega) only [go_sem, h23c, q, eq_true k1, eg, e1, List.set_set, List.length_set]
    rfl
  rw [if_neg k1]
  by_cases k4 : a.k = 4
  · rw [if_pos k4]
    have h := hi (by omega)
    obtain ⟨hp, he⟩ := (isIn_iff hs a.c).1 h
    have eg : (gs.map Gr.e)[pos gs a.c]? = some [ci (grE gs a.c).c, ci (grE gs a.c).l, ci (grE gs a.c).t] := by rw [List.getElem?_map, List.getElem?_eq_getElem hp, grE, grAt gs _ hp]; rfl
    have hp' : pos gs a.c < (gs.map Gr.e).length := by simpa using hp
    have e1 := fun x => set_get (x := x) hp'
    have q1 := thr_v (bb := bb) hG (ackG gs a.c) ws (Srt_set hs h _ (grE_mem hs h).2) hk (by rw [ack_len]; omega)
    simp only [fileH, ack_map, ack_len] at q1
    rw [thA_1, thA_2]
    simp only [fileH, thA]
    simp (disch := omega) only [go_sem, h23c, q, k1, eq_true k4, eg, e1, List.set_set, List.length_set, q1]
  rw [if_neg k4]
  by_cases k5 : a.k = 5
  · rw [if_pos k5]
    have h := hi (by omega)
    obtain ⟨hp, he⟩ := (isIn_iff hs a.c).1 h
    have q2 := delG_v (G := G) (bb := bb) gs (pos gs a.c) hp (by omega)
    have q1 := thr_v (bb := bb) hG (delG gs a.c) ws (Srt_del hs h) hk (by rw [del_len hs h]; omega)
    rw [show gs.take (pos gs a.c) ++ gs.drop (pos gs a.c + 1) = delG gs a.c from rfl] at q2
    simp only [fileH, del_len hs h] at q1
    rw [thA_1, thA_2]
    simp only [fileH, thA]
    simp (disch := omega) only [go_sem, h23c, q, k1, k4, eq_true k5, q1, q2]
  rw [if_neg k5]
  have q1 := use_v (bb := bb) hG gs ws hs a.c a.k (by unfold kOK; omega) (by omega) (by omega)
  simp only [fileH] at q1
  simp only [fileH, useF_f]
  simp (disch := omega) only [go_sem, h23c, q, k1, k4, k5, q1]
  unfold An.v
  rw [useF_f]
  rfl
end
section
variable {G : Glob} {bb : Bool}
theorem open_n (hG : G 0 = some alD) (gs : List Gr) (ws : List Wt) (hg : gs.length ≤ 100000) (hw : ws.length ≤ 100000) (h : (chk gs ws).2 ≠ 0) : EV G (Tb (bs bb)) 21 [flV gs ws] [] = some (.tup [.one (.dc (.raw (.pointer none))), .one (.dc (ci (chk gs ws).2))], []) := by
  refine EV_run rfl ?_
  have q := checkFile_v (G := G) (bb := bb) hG gs ws hg hw
  simp (disch := omega) only [go_sem, h21c, q, h]
  try rfl
theorem open_y (hG : G 0 = some alD) (gs : List Gr) (ws : List Wt) (hg : gs.length ≤ 100000) (hw : ws.length ≤ 100000) (h : (chk gs ws).2 = 0) : EV G (Tb (bs bb)) 21 [flV gs ws] [] = some (.tup [.one (.ptr 4 0), .one (.dc (ci 0))], [.box [.dc (.slc (gs.map Gr.e)), .dc (.slc (ws.map Wt.e))], .box [.dc (.slc (gs.map Gr.e)), .dc (.slc (ws.map Wt.e))], .arr 0 3 (gs.map Gr.e), .arr 0 2 (ws.map Wt.e), .box [.bld 2 gs.length, .bld 3 ws.length]]) := by
  refine EV_run rfl ?_
  have q := checkFile_v (G := G) (bb := bb) hG gs ws hg hw
  have q1 := copied_v (G := G) (bb := bb) gs ws (by omega) (by omega)
  simp (disch := omega) only [go_sem, h21c, q, q1, h]
  try rfl
def stpF (gs : List Gr) (ws : List Wt) (a : Ac) : (List Gr × List Wt × An) × Int :=
  if (chk gs ws).2 = 0 then (if acErr gs ws a = 0 then (stp gs ws a, 0) else (([], [], ⟨false, [], []⟩), acErr gs ws a)) else (([], [], ⟨false, [], []⟩), (chk gs ws).2)
abbrev stpV (r : (List Gr × List Wt × An) × Int) : AV := .tup [.agg [.dc (.slc (r.1.1.map Gr.e)), .dc (.slc (r.1.2.1.map Wt.e))], .agg [.dc (.raw (.bool r.1.2.2.d)), .dc (.slc (r.1.2.2.b.map Br.e)), .dc (.slc (r.1.2.2.f.map Wt.e))], .one (.dc (.raw (.int .i64 r.2)))]
theorem ac_us {gs : List Gr} {ws : List Wt} {a : Ac} (h : acErr gs ws a = 0) : (0 ≤ a.k ∧ a.k ≤ 5) ∧ (a.k ≠ 0 → isIn gs a.c = true) := by
  have hu : usErr gs ws a = 0 := by
    unfold acErr at h
    split at h
    · rename_i h1; exact absurd h h1
    · rename_i h1; exact Classical.not_not.1 h1
  obtain ⟨h1, h2, h3, h4, h5⟩ := us_ok hu
  refine ⟨h1, fun h0 => ?_⟩
  cases hi : isIn gs a.c with
  | true => rfl
  | false => exact absurd (h5.2 hi) h0
theorem stepped_v (hG : G 0 = some alD) (gs : List Gr) (ws : List Wt) (a : Ac) (hg : gs.length ≤ 100000) (hw : ws.length ≤ 100000) : EV G (Tb (bs bb)) 10 [flV gs ws, a.v] [] = some (stpV (stpF gs ws a), []) := by
  refine EV_run rfl ?_
  unfold stpF
  by_cases h : (chk gs ws).2 = 0
  · rw [if_pos h]
    have q := open_y (bb := bb) hG gs ws hg hw h
    obtain ⟨hV, hH⟩ := chk_ok h
    have h1 := hV.gl
    have h2 := hV.wl
    have q1 := actErr_v (G := G) (bb := bb) gs ws hV.so a hg hw
    by_cases he : acErr gs ws a = 0
    · rw [if_pos he]
      rw [he] at q1
      obtain ⟨h3, h4⟩ := ac_us he
      have q2 := step_v (bb := bb) hG gs ws a hV.so (fun w hw => kOK_us (hV.wr w hw).2.1) h3 h4 (by omega)
      generalize stp gs ws a = s at *
      obtain ⟨gs', ws', an⟩ := s
      simp only [fileH] at q2
      simp (disch := omega) only [go_sem, h10c, q, q1, q2, evJ_3]
      rw [fvT_b (by rfl) (by simp)]
      simp (disch := omega) only [go_sem]
      rw [fvT_b (by rfl) (by simp)]
      simp (disch := omega) only [go_sem, List.take_length]
      try rfl
    · rw [if_neg he]
      simp (disch := omega) only [go_sem, h10c, q, q1, he]
      try rfl
  · rw [if_neg h]
    have q := open_n (bb := bb) hG gs ws hg hw h
    simp (disch := omega) only [go_sem, h10c, q, h]
    try rfl
end
section
theorem cnt_one {gs : List Gr} (hs : Srt gs) (p : Gr → Bool) {c : Int} (h : ∀ g ∈ gs, p g = true → g.c = c) : gs.countP p ≤ 1 := by
  rw [List.countP_eq_length_filter]
  have h1 : (gs.filter p).Pairwise fun a b => a.c < b.c := List.Pairwise.sublist List.filter_sublist hs
  have h2 : ∀ g ∈ gs.filter p, g.c = c := fun g hg => h g (List.mem_filter.1 hg).1 (List.mem_filter.1 hg).2
  generalize gs.filter p = l at *
  match l, h1, h2 with
  | [], _, _ => simp
  | [a], _, _ => simp
  | a :: b :: l, h1, h2 =>
    have h3 := (List.pairwise_cons.1 h1).1 b List.mem_cons_self
    have h4 := h2 a List.mem_cons_self
    have h5 := h2 b (List.mem_cons_of_mem _ List.mem_cons_self)
    omega
def abv (gs : List Gr) (m : Int) : Nat := gs.countP fun g => decide (g.l > m)
theorem abv_one {gs : List Gr} {ws : List Wt} (h : Vd gs ws) : abv gs 1 ≤ 1 ∧ (abv gs 1 = 1 → abv gs 0 ≤ 1) := by
  by_cases he : ∃ g ∈ gs, g.l ≥ 2
  · obtain ⟨g, hg, hl⟩ := he
    have h1 : ∀ k ∈ gs, decide (k.l > 0) = true → k.c = g.c := by
      intro k hk h2
      apply Classical.byContradiction
      intro h3
      have := (h.cl g hg k hk h3).1 hl
      have h2 : k.l > 0 := by simpa using h2
      omega
    refine ⟨cnt_one h.so _ (c := g.c) (fun k hk h2 => h1 k hk ?_), fun _ => cnt_one h.so _ h1⟩
    have h2 : k.l > 1 := by simpa using h2
    simp; omega
  · have h0 : abv gs 1 = 0 := by
      unfold abv
      rw [List.countP_eq_zero]
      intro g hg h2
      have h2 : g.l > 1 := by simpa using h2
      exact he ⟨g, hg, by omega⟩
    rw [h0]
    exact ⟨by omega, by omega⟩
def Nb (gs : List Gr) (ws : List Wt) : Prop := ∀ w ∈ ws, ∀ g ∈ gs, g.c = w.c → g.l ≤ 1
theorem Nb.nil {gs : List Gr} : Nb gs [] := fun w hw => by cases hw
theorem holder {gs : List Gr} {w : Wt} {ws : List Wt} (h : Vd gs (w :: ws)) (hd : Hd gs (w :: ws)) : ∃ g ∈ gs, g.c ≠ w.c ∧ g.l ≥ 2 ∧ g.t < g.l := by
  obtain ⟨h1, h2⟩ := hd w rfl
  unfold held at h2
  rw [List.any_eq_true] at h2
  obtain ⟨g, hg, h3⟩ := h2
  simp only [Bool.and_eq_true, decide_eq_true_eq] at h3
  unfold brBs at h1
  rw [List.flatMap_eq_nil_iff] at h1
  have h4 := h1 g hg
  have h5 := h.rg g hg
  have h6 := al_r w.k
  unfold brB at h4
  rw [if_neg (by omega)] at h4
  split at h4
  · cases h4
  · split at h4
    · exact ⟨g, hg, h3.1, by omega, by omega⟩
    · cases h4
theorem two_eq {gs : List Gr} {ws : List Wt} (h : Vd gs ws) {a b : Gr} (ha : a ∈ gs) (hb : b ∈ gs) (h1 : a.l ≥ 2) (h2 : b.l ≥ 1) : b = a := by
  by_cases hc : b.c = a.c
  · rw [grE_uniq h.so ha rfl, ← hc, ← grE_uniq h.so hb rfl]
  · have := (h.cl a ha b hb hc).1 h1
    omega
theorem br_hi {gs : List Gr} {ws : List Wt} (h : Vd gs ws) {g : Gr} (hg : g ∈ gs) (hb : g.t ≠ g.l) : g.l ≥ 2 := by
  have h5 := h.rg g hg
  by_cases h1 : g.l = 1
  · have := h5.2.2.2.2 h1; omega
  · omega
def rdy (gs : List Gr) : List Int := (gs.filter fun g => decide (g.t ≠ g.l)).map (·.c)
theorem ack_mem {gs : List Gr} (hs : Srt gs) {c : Int} (hi : isIn gs c = true) {k : Gr} (hk : k ∈ ackG gs c) : (k.c ≠ c ∧ k ∈ gs) ∨ k = ⟨(grE gs c).c, (grE gs c).t, (grE gs c).t⟩ := by
  obtain ⟨f, h1, h2, h3, h4⟩ := set_map hs hi ⟨(grE gs c).c, (grE gs c).t, (grE gs c).t⟩ (grE_mem hs hi).2
  unfold ackG at hk
  rw [h1] at hk
  obtain ⟨g, hg, rfl⟩ := List.mem_map.1 hk
  by_cases hc : g.c = c
  · right; exact h3 g hc
  · left; rw [h4 g hc]; exact ⟨hc, hg⟩
theorem brG_le {gs : List Gr} {c k : Int} {x : Gr} (h : x ∈ brGs gs c k) : ∃ g ∈ gs, g.c = x.c ∧ (x.l = g.l ∨ x.l = 0) := by
  obtain ⟨g, hg, rfl⟩ := List.mem_map.1 h
  refine ⟨g, hg, (brG_c _ _ _).symm, ?_⟩
  unfold brG
  repeat' split
  all_goals first | exact .inl rfl | exact .inr rfl
theorem did_le {gs : List Gr} {c k : Int} {x : Gr} (h : x ∈ did gs c k) : x ∈ gs ∨ x = ⟨c, 0, 0⟩ := by
  unfold did at h
  split at h
  · exact (insG_mem.1 h).symm
  · exact .inl h
theorem thr_le : ∀ (ws : List Wt) (gs : List Gr) (k : Gr), k ∈ (thr gs ws).1 → k.l = 0 ∨ ∃ g ∈ gs, g.c = k.c ∧ k.l = g.l
  | [], gs, k, h => .inr ⟨k, h, rfl, rfl⟩
  | w :: ws, gs, k, h => by
    have hb : ∀ x ∈ brGs gs w.c w.k, x.l = 0 ∨ ∃ g ∈ gs, g.c = x.c ∧ x.l = g.l := by
      intro x hx
      obtain ⟨g, hg, h1, h2⟩ := brG_le hx
      rcases h2 with h2 | h2
      · exact .inr ⟨g, hg, h1, h2⟩
      · exact .inl h2
    rw [thr] at h
    split at h
    · exact hb k h
    · rcases thr_le ws _ k h with h1 | ⟨g, hg, h1, h2⟩
      · exact .inl h1
      · rcases did_le hg with hg | rfl
        · rcases hb g hg with h3 | ⟨g', h3, h4, h5⟩
          · left; omega
          · exact .inr ⟨g', h3, by omega, by omega⟩
        · left; simpa using h2
theorem thr_spl : ∀ (ws : List Wt) (gs : List Gr), (thr gs ws).2.2.2 ++ (thr gs ws).2.1 = ws
  | [], gs => rfl
  | w :: ws, gs => by
    rw [thr]
    split
    · rfl
    · simp only [List.cons_append, thr_spl ws]
theorem thr_nb {gs gs0 : List Gr} {ws : List Wt} (h : Nb gs ws) (hl : ∀ k ∈ gs0, ∃ g ∈ gs, g.c = k.c ∧ k.l ≤ g.l) : Nb (thr gs0 ws).1 (thr gs0 ws).2.1 := by
  intro w hw k hk hc
  have hw' : w ∈ ws := by
    rw [← thr_spl ws gs0]
    exact List.mem_append_right _ hw
  rcases thr_le ws gs0 k hk with h1 | ⟨g, hg, h1, h2⟩
  · omega
  · obtain ⟨g', h3, h4, h5⟩ := hl g hg
    have := h w hw' g' h3 (by omega)
    omega
theorem stp_nb {gs : List Gr} {ws : List Wt} {a : Ac} (h : Vd gs ws) (hd : Hd gs ws) (hn : Nb gs ws) (he : acErr gs ws a = 0) : Nb (stp gs ws a).1 (stp gs ws a).2.1 := by
  unfold acErr at he
  split at he
  · rename_i h1; exact absurd he h1
  rename_i h1
  have h1 : usErr gs ws a = 0 := Classical.not_not.1 h1
  obtain ⟨k1, k2, k3, k4, k5⟩ := us_ok h1
  split at he
  · cases he
  rename_i h2
  split at he
  · cases he
  rename_i h3
  unfold stp
  split
  · rename_i hk
    have hws : ws = [] := by
      cases ws with
      | nil => rfl
      | cons w ws => exact absurd ⟨hk, by simp [mayH]⟩ h3
    subst hws
    exact Nb.nil
  rename_i n1
  have hi : a.k ≠ 0 → isIn gs a.c = true := fun h0 => by
    cases hi : isIn gs a.c with
    | true => rfl
    | false => exact absurd (k5.2 hi) h0
  split
  · rename_i hk
    have hi := hi (by omega)
    have hm := grE_mem h.so hi
    have hr := h.rg _ hm.1
    refine thr_nb hn (fun k hk => ?_)
    rcases ack_mem h.so hi hk with h5 | rfl
    · exact ⟨k, h5.2, rfl, Int.le_refl _⟩
    · exact ⟨_, hm.1, rfl, hr.2.2.2.1⟩
  rename_i n4
  split
  · rename_i hk
    have hi := hi (by omega)
    refine thr_nb hn (fun k hk => ?_)
    rw [delG_eq h.so hi] at hk
    exact ⟨k, (List.mem_filter.1 hk).1, rfl, Int.le_refl _⟩
  rename_i n5
  have hu : a.k = 0 ∨ a.k = 2 ∨ a.k = 3 := by omega
  unfold useF
  split
  · rename_i hws
    have hws := List.length_eq_zero_iff.1 hws
    subst hws
    split
    · rename_i hh
      intro w hw x hx hc
      rw [List.mem_singleton] at hw
      subst hw
      simp only at hc
      unfold held at hh
      rw [List.any_eq_true] at hh
      obtain ⟨y, hy, h5⟩ := hh
      simp only [Bool.and_eq_true, decide_eq_true_eq] at h5
      have hy2 : y.l ≥ 2 := by
        obtain ⟨g, hg, rfl⟩ := List.mem_map.1 hy
        have h6 := al_r a.k
        rw [brG_c] at h5
        by_cases c1 : g.c = a.c ∨ g.l ≤ al a.k
        · unfold brG at h5
          rw [if_pos c1] at h5
          omega
        · by_cases c2 : g.l = 1
          · unfold brG at h5
            rw [if_neg c1, if_pos c2] at h5
            simp only at h5
            omega
          · unfold brG
            rw [if_neg c1, if_neg c2]
            split
            · omega
            · simp only; omega
      apply Classical.byContradiction
      intro h6
      have := two_eq (h.br a.c a.k) hy hx hy2 (by omega)
      subst this
      exact h5.1 hc
    · exact Nb.nil
  · rename_i hws
    intro w hw g hg hc
    rw [List.mem_append, List.mem_singleton] at hw
    rcases hw with hw | rfl
    · exact hn w hw g hg hc
    · simp only at hc
      apply Classical.byContradiction
      intro h6
      cases ws with
      | nil => simp at hws
      | cons w ws =>
        obtain ⟨y, hy, _, h7, h8⟩ := holder h hd
        have := two_eq h hy hg h7 (by omega)
        subst this
        have hi2 : isIn gs a.c = true := isIn_mem.2 ⟨g, hg, hc⟩
        have eg := grE_uniq h.so hg hc
        refine h2 ⟨hi2, ?_⟩
        rw [← eg]
        unfold wrong
        have : ¬ a.k = 0 := fun h0 => by rw [k5.1 h0] at hi2; cases hi2
        rw [if_neg (by omega), if_neg (by omega), if_neg (by omega)]
        simp; omega
theorem ack_may {gs : List Gr} {w : Wt} {ws : List Wt} (h : Vd gs (w :: ws)) (hd : Hd gs (w :: ws)) (hn : Nb gs (w :: ws)) :
    ∃ c l, rdy gs = c :: l ∧ acErr gs (w :: ws) ⟨4, c, 0⟩ = 0 ∧ gs.length ≥ 1 ∧ ∀ B : Int, (∀ g ∈ gs, g.l ≤ B) → B ≥ 2 ∧ ∀ g ∈ (thr (ackG gs c) (w :: ws)).1, g.l ≤ B - 1 := by
  obtain ⟨y, hy, _, h7, h8⟩ := holder h hd
  have hr : ∃ c l, rdy gs = c :: l := by
    cases hq : rdy gs with
    | nil =>
      have : y.c ∈ rdy gs := List.mem_map.2 ⟨y, List.mem_filter.2 ⟨hy, by simp; omega⟩, rfl⟩
      rw [hq] at this; cases this
    | cons c l => exact ⟨c, l, rfl⟩
  obtain ⟨c, l, hq⟩ := hr
  have hc : c = y.c := by
    have : c ∈ rdy gs := by rw [hq]; exact List.mem_cons_self
    obtain ⟨g, hg, rfl⟩ := List.mem_map.1 this
    obtain ⟨hg1, hg2⟩ := List.mem_filter.1 hg
    rw [two_eq h hy hg1 h7 (by have := br_hi h hg1 (by simpa using hg2); omega)]
  subst hc
  refine ⟨y.c, l, hq, ?_, List.length_pos_of_mem hy, fun B hB => ?_⟩
  · have hi : isIn gs y.c = true := isIn_mem.2 ⟨y, hy, rfl⟩
    have hw : isW (w :: ws) y.c = false := isW_false.2 (fun x hx e => by have := hn x hx y hy e.symm; omega)
    have hu : usErr gs (w :: ws) ⟨4, y.c, 0⟩ = 0 := by
      have hr := (h.rg y hy).1
      unfold usErr
      rw [firstE_0]
      simp only [List.mem_cons, List.not_mem_nil, or_false, forall_eq_or_imp, forall_eq]
      rw [ifE_0 (by decide), ifE_0 (by decide), ifE_0 (by decide), ifE_0 (by decide), ifE_0 (by decide), hi, hw]
      simp [isCl, lvOK, hr]
    unfold acErr
    rw [if_neg (by omega), if_neg, if_neg (by simp), if_neg (by simp [isUs])]
    rw [← grE_uniq h.so hy rfl]
    unfold wrong
    simp; omega
  · have hB1 := hB y hy
    have hi : isIn gs y.c = true := isIn_mem.2 ⟨y, hy, rfl⟩
    refine ⟨by omega, fun k hk => ?_⟩
    have key : ∀ g ∈ ackG gs y.c, g.l ≤ B - 1 := by
      intro g hg
      rcases ack_mem h.so hi hg with h5 | rfl
      · have := (h.cl y hy g h5.2 h5.1).1 h7
        omega
      · rw [← grE_uniq h.so hy rfl]
        simp only
        omega
    rcases thr_le _ _ k hk with h1 | ⟨g, hg, h1, h2⟩
    · omega
    · have := key g hg
      omega
end
section
variable {G : Glob} {bb : Bool}
def upd {α : Type} (f : Nat → α) (n : Nat) (x : α) : Nat → α := fun m => if m = n then x else f m
def caC (p s n : Nat) (v : Int) (K : Nat → Int) (D : Nat → Bool) (W : Nat → Int) : List Cel :=
  [.ptr p 0, .dc (ci v), .dc (ci (K 0)), .dc (ci (K 1)), .dc (ci (K 2)), .dc (ci (K 3)), .dc (ci (K 4)), .dc (ci (K 5)), .dc (ci (K 6)), .dc (ci (K 7)), .dc (ci (K 8)),
   .dc (.raw (.bool (D 0))), .dc (.raw (.bool (D 1))), .dc (.raw (.bool (D 2))), .dc (.raw (.bool (D 3))), .dc (.raw (.bool (D 4))), .dc (.raw (.bool (D 5))), .dc (.raw (.bool (D 6))), .dc (.raw (.bool (D 7))), .dc (.raw (.bool (D 8))),
   .dc (ci (W 0)), .dc (ci (W 1)), .dc (ci (W 2)), .dc (ci (W 3)), .dc (ci (W 4)), .dc (ci (W 5)), .dc (ci (W 6)), .dc (ci (W 7)), .dc (ci (W 8)), .bld s n]
def jkC : Bool → Bool → List Cel → List Cel
  | false, false, cs => cs
  | false, true, cs => cs.set 29 .junk
  | true, false, cs => cs.set 0 .junk
  | true, true, cs => (cs.set 0 .junk).set 29 .junk
theorem jk_ff {cs : List Cel} : jkC false false cs = cs := rfl
theorem jk_ft {cs : List Cel} : jkC false true cs = cs.set 29 .junk := rfl
theorem bneff : (false != false) = false := rfl
theorem bnetf : (true != false) = true := rfl
section
variable {p s n : Nat} {v : Int} {K : Nat → Int} {D : Nat → Bool} {W : Nat → Int}
theorem caC_len : (caC p s n v K D W).length = 30 := rfl
theorem caC_0 : ((caC p s n v K D W).drop 0).take 1 = [.ptr p 0] := rfl
theorem caC_0' : (caC p s n v K D W).take 1 = [.ptr p 0] := rfl
theorem caC_1 : ((caC p s n v K D W).drop 1).take 1 = [.dc (ci v)] := rfl
theorem caC_29 : ((caC p s n v K D W).drop 29).take 1 = [.bld s n] := rfl
theorem caC_k {m : Nat} (h : m < 9) : ((caC p s n v K D W).drop (2 + m)).take 1 = [.dc (ci (K m))] := by
  match m, h with
  | 0, _ => rfl | 1, _ => rfl | 2, _ => rfl | 3, _ => rfl | 4, _ => rfl | 5, _ => rfl | 6, _ => rfl | 7, _ => rfl | 8, _ => rfl
theorem caC_d {m : Nat} (h : m < 9) : ((caC p s n v K D W).drop (11 + m)).take 1 = [.dc (.raw (.bool (D m)))] := by
  match m, h with
  | 0, _ => rfl | 1, _ => rfl | 2, _ => rfl | 3, _ => rfl | 4, _ => rfl | 5, _ => rfl | 6, _ => rfl | 7, _ => rfl | 8, _ => rfl
theorem caC_w {m : Nat} (h : m < 9) : ((caC p s n v K D W).drop (20 + m)).take 1 = [.dc (ci (W m))] := by
  match m, h with
  | 0, _ => rfl | 1, _ => rfl | 2, _ => rfl | 3, _ => rfl | 4, _ => rfl | 5, _ => rfl | 6, _ => rfl | 7, _ => rfl | 8, _ => rfl
theorem caP_1 {x : Int} : putAt (caC p s n v K D W) 1 [.dc (ci x)] = caC p s n x K D W := rfl
theorem caP_29 {s' n' : Nat} : putAt (caC p s n v K D W) 29 [.bld s' n'] = caC p s' n' v K D W := rfl
theorem caP_k {m : Nat} (h : m < 9) {x : Int} : putAt (caC p s n v K D W) (2 + m) [.dc (ci x)] = caC p s n v (upd K m x) D W := by
  match m, h with
  | 0, _ => rfl | 1, _ => rfl | 2, _ => rfl | 3, _ => rfl | 4, _ => rfl | 5, _ => rfl | 6, _ => rfl | 7, _ => rfl | 8, _ => rfl
theorem caP_d {m : Nat} (h : m < 9) {x : Bool} : putAt (caC p s n v K D W) (11 + m) [.dc (.raw (.bool x))] = caC p s n v K (upd D m x) W := by
  match m, h with
  | 0, _ => rfl | 1, _ => rfl | 2, _ => rfl | 3, _ => rfl | 4, _ => rfl | 5, _ => rfl | 6, _ => rfl | 7, _ => rfl | 8, _ => rfl
theorem caP_w {m : Nat} (h : m < 9) {x : Int} : putAt (caC p s n v K D W) (20 + m) [.dc (ci x)] = caC p s n v K D (upd W m x) := by
  match m, h with
  | 0, _ => rfl | 1, _ => rfl | 2, _ => rfl | 3, _ => rfl | 4, _ => rfl | 5, _ => rfl | 6, _ => rfl | 7, _ => rfl | 8, _ => rfl
theorem caC_kp {J : List Nat} : kpCs J (caC p s n v K D W) = (memN p J && memN s J) := by
  simp only [caC, kpCs, kpC, Bool.true_and, Bool.and_true]
theorem caC_id : idsL (caC p s n v K D W) = [p, s] := rfl
theorem caC_ren {f : Nat → Nat} : (caC p s n v K D W).map (renC f) = caC (f p) (f s) n v K D W := rfl
theorem caC_ct {m : Nat} : ctCs m (caC p s n v K D W) = jkC (decide (m ≤ p)) (decide (m ≤ s)) (caC p s n v K D W) := by
  by_cases h1 : m ≤ p <;> by_cases h2 : m ≤ s <;> simp [caC, ctCs, ctC, jkC, h1, h2]
theorem caC_ka {A : List Nat} : kaCs A (caC p s n v K D W) = jkC (memN p A) (memN s A) (caC p s n v K D W) := by
  cases h1 : memN p A <;> cases h2 : memN s A <;> simp [caC, kaCs, kaC, jkC, h1, h2]
theorem caC_kl {i : Nat} : klCs i (caC p s n v K D W) = jkC (nq p i) (nq s i) (caC p s n v K D W) := by
  cases h1 : nq p i <;> cases h2 : nq s i <;> simp [caC, klCs, klC, jkC, h1, h2]
theorem caC_kill {f : Nat → Bool} : (caC p s n v K D W).map (killC f) = jkC (f p) (f s) (caC p s n v K D W) := by
  cases h1 : f p <;> cases h2 : f s <;> simp [caC, killC, Cel.keep, jkC, h1, h2]
theorem caJ_29 {s' n' : Nat} : putAt ((caC p s n v K D W).set 29 .junk) 29 [.bld s' n'] = caC p s' n' v K D W := rfl
theorem caJ_len : ((caC p s n v K D W).set 29 .junk).length = 30 := rfl
end
attribute [go_sem] caC_len caC_0 caC_0' caC_1 caC_29 caC_k caC_d caC_w caP_1 caP_29 caP_k caP_d caP_w caC_kp caC_id caC_ren caC_ct caC_ka caC_kl jk_ff jk_ft bneff bnetf caC_kill caJ_29 caJ_len
theorem evJ_5 {call : CallT} {d : Option Nat} {f : FuncId} {avs : List AV} {st : AS} {a0 a1 a2 a3 a4 : Nat} : evJ call d f avs st [a0, a1, a2, a3, a4] = evB call d f avs st [a0, a1, a2, a3, a4] (dstN [a0, a1, a2, a3, a4] && kpH [a0, a1, a2, a3, a4] st.hp [a0, a1, a2, a3, a4] && kpVs [a0, a1, a2, a3, a4] avs) := evJ_e _
def ci0 (i : Int) : List DC := [ci i]
abbrev caH (gs : List Gr) (ws : List Wt) (v : Int) (K : Nat → Int) (D : Nat → Bool) (W : Nat → Int) (sn : List Int) : List AObj := [.box (caC 1 4 sn.length v K D W), .box [.bld 2 gs.length, .bld 3 ws.length], .arr 0 3 (gs.map Gr.e), .arr 0 2 (ws.map Wt.e), .arr 0 1 (sn.map ci0)]
theorem grant_oy {gs : List Gr} (ws : List Wt) (hs : Srt gs) (hl : gs.length ≤ 100000) (c : Int) (h : isIn gs c = true) : EV G (Tb (bs bb)) 46 [.one (.ptr 0 0), vi c] (fileH gs ws) = some (.one (.ept 1 (pos gs c) 3 0), fileH gs ws) := by
  refine EV_run rfl ?_
  obtain ⟨hk, he⟩ := (isIn_iff hs c).1 h
  have q := place_v (G := G) (bb := bb) ws hs hl c
  rw [h] at q
  simp (disch := omega) only [go_sem, h46c, q]
theorem grant_on {gs : List Gr} (ws : List Wt) (hs : Srt gs) (hl : gs.length ≤ 100000) (c : Int) (h : isIn gs c = false) : EV G (Tb (bs bb)) 46 [.one (.ptr 0 0), vi c] (fileH gs ws) = some (.one (.dc (.raw (.pointer none))), fileH gs ws) := by
  refine EV_run rfl ?_
  have q := place_v (G := G) (bb := bb) ws hs hl c
  rw [h] at q
  simp (disch := omega) only [go_sem, h46c, q]
def lvF (gs : List Gr) (c : Int) : Int := if isIn gs c = true then (grE gs c).l else -1
def brF (gs : List Gr) (c : Int) : Bool := if isIn gs c = true then decide ((grE gs c).t ≠ (grE gs c).l) else false
theorem level_v {gs : List Gr} (ws : List Wt) (hs : Srt gs) (hl : gs.length ≤ 100000) (v : Int) (K : Nat → Int) (D : Nat → Bool) (W : Nat → Int) (sn : List Int) (c : Int) :
    EV G (Tb (bs bb)) 45 [.one (.ptr 0 0), vi c] (caH gs ws v K D W sn) = some (.tup [.one (.dc (ci (lvF gs c))), .one (.dc (.raw (.bool (brF gs c))))], caH gs ws v K D W sn) := by
  refine EV_run rfl ?_
  unfold lvF brF
  cases h : isIn gs c with
  | true =>
    have q := grant_oy (G := G) (bb := bb) ws hs hl c h
    obtain ⟨hk, he⟩ := (isIn_iff hs c).1 h
    have eg : (gs.map Gr.e)[pos gs c]? = some [ci (grE gs c).c, ci (grE gs c).l, ci (grE gs c).t] := by rw [List.getElem?_map, List.getElem?_eq_getElem hk, grE, grAt gs _ hk]; rfl
    generalize grE gs c = g at *
    simp (disch := omega) only [go_sem, h45c, q, evJ_5, eg]
  | false =>
    have q := grant_on (G := G) (bb := bb) ws hs hl c h
    simp (disch := omega) only [go_sem, h45c, q, evJ_5]
end
section
variable {G : Glob} {bb : Bool}
def rdyK (gs : List Gr) (k : Nat) : List Int := rdy (gs.take k)
theorem rdyK_s (gs : List Gr) (k : Nat) (h : k < gs.length) : rdyK gs (k + 1) = rdyK gs k ++ (if gs[k].t ≠ gs[k].l then [gs[k].c] else []) := by
  unfold rdyK rdy
  rw [List.take_add_one, List.getElem?_eq_getElem h, Option.toList_some, List.filter_append, List.map_append]
  congr 1
  by_cases h1 : gs[k].t = gs[k].l
  · simp [h1]
  · simp [h1]
theorem rdyK_len (gs : List Gr) (k : Nat) : (rdyK gs k).length ≤ k := by
  unfold rdyK rdy
  rw [List.length_map]
  have := List.length_filter_le (fun g : Gr => decide (g.t ≠ g.l)) (gs.take k)
  have := List.length_take_le k gs
  omega
theorem rdyK_all (gs : List Gr) : rdyK gs gs.length = rdy gs := by unfold rdyK; rw [List.take_length]
end
section
variable {G : Glob} {bb : Bool}
theorem ready_v (gs : List Gr) (ws : List Wt) (hl : gs.length ≤ 100000) : EV G (Tb (bs bb)) 34 [.one (.ptr 0 0)] (fileH gs ws) = some (vl ((rdy gs).map ci0), fileH gs ws) := by
  refine EV_run rfl ?_
  simp (disch := omega) only [go_sem, h34c, List.take_length]
  rw [EL_loop (fun j => ⟨(jk 3 (.one (.bld 3 (rdyK gs j).length) :: jk 6 (.one (.bld 1 gs.length) :: vi gs.length :: vi j :: jk 15 []))), fileH gs ws ++ [.arr 0 1 ((rdyK gs j).map ci0)]⟩) gs.length ?_ ?_]
  rotate_left
  · rfl
  · intro j hj
    have eg : (gs.map Gr.e)[j]? = some [ci gs[j].c, ci gs[j].l, ci gs[j].t] := by rw [List.getElem?_map, List.getElem?_eq_getElem hj]; rfl
    rw [rdyK_s gs j hj]
    have ln := rdyK_len gs j
    generalize rdyK gs j = R at *
    generalize gs[j] = g at *
    by_cases h1 : g.t = g.l
    · rw [if_neg (by simp [h1]), List.append_nil]
      simp (disch := omega) only [go_sem, h34l0, eg, eq_true h1]
    · rw [if_pos h1]
      have tk : List.take R.length (R.map ci0) = R.map ci0 := List.take_of_length_le (by simp)
      simp (disch := omega) only [go_sem, h34l0, eg, h1, tk, List.map_append, List.map_cons, List.map_nil, List.length_append, List.length_cons, List.length_nil, ci0]
  rw [rdyK_all]
  have tk : List.take (rdy gs).length ((rdy gs).map ci0) = (rdy gs).map ci0 := List.take_of_length_le (by simp)
  simp (disch := omega) only [go_sem, h34l0, tk]
theorem readyIn_v (hG : G 0 = some alD) (gs : List Gr) (ws : List Wt) (hg : gs.length ≤ 100000) (hw : ws.length ≤ 100000) :
    EV G (Tb (bs bb)) 15 [flV gs ws] [] = some (.tup [.one (.dc (.slc (if (chk gs ws).2 = 0 then (rdy gs).map ci0 else []))), .one (.dc (ci (chk gs ws).2))], []) := by
  refine EV_run rfl ?_
  by_cases h : (chk gs ws).2 = 0
  · rw [if_pos h, h]
    have q := open_y (bb := bb) hG gs ws hg hw h
    have q1 := ready_v (G := G) (bb := bb) gs ws hg
    simp (disch := omega) only [go_sem, h15c, q, q1, evJ_3]
    try rfl
  · rw [if_neg h]
    have q := open_n (bb := bb) hG gs ws hg hw h
    simp (disch := omega) only [go_sem, h15c, q, h]
    try rfl
end
end Go.Proofs.YtinageiefahjfaaDoor
