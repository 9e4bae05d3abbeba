/- The reference: Step. Conditions: none. -/
import Derived.Test.YtinageiefahjfaaGreatDoorWo
namespace Go.Proofs.YtinageiefahjfaaGreatDoor
set_option linter.unusedSimpArgs false
set_option linter.unusedVariables false
set_option maxRecDepth 4000
section
variable {G : Glob} {bb : Bool}
def tqA0 (gA : List Gr) (gs : List Gr) (ws : List Wt) (a : Ac) (g : List Gr) (w : List Wt) (B : List Br) (F : List Wt) : AS := ⟨(jk 4 (.one (.ptr 2 0) :: .one (.ptr 3 0) :: .one (.ptr 8 0) :: jk 2 (.one (.ptr 9 0) :: jk 151 []))), [.box [.dc (.slc (gs.map Gr.e)), .dc (.slc (ws.map Wt.e))], .box [.dc (ci a.k), .dc (ci a.c), .dc (ci a.l)], .box [.dc (.raw (.slice none 0 0)), .dc (.raw (.slice none 0 0))], .box [.dc (.raw (.bool false)), .dc (.raw (.slice none 0 0)), .dc (.raw (.slice none 0 0))], .box [.dc (.slc (gs.map Gr.e)), .dc (.slc (ws.map Wt.e))], .box [.bld 6 g.length, .bld 7 w.length], .arr 0 3 (g.map Gr.e), .arr 0 2 (w.map Wt.e), .box [.bld 6 g.length, .bld 7 w.length], .box [.dc (.raw (.bool true)), .bld 10 B.length, .bld 11 F.length], .arr 0 2 (B.map Br.e), .arr 0 2 (F.map Wt.e)]⟩
def tqA1 (gA : List Gr) (gs : List Gr) (ws : List Wt) (a : Ac) (g : List Gr) (w : List Wt) (B : List Br) (F : List Wt) : AS := ⟨(jk 4 (.one (.ptr 2 0) :: .one (.ptr 3 0) :: .one (.ptr 8 0) :: jk 2 (.one (.ptr 9 0) :: jk 151 []))), [.box [.dc (.slc (gs.map Gr.e)), .dc (.slc (ws.map Wt.e))], .box [.dc (ci a.k), .dc (ci a.c), .dc (ci a.l)], .box [.dc (.raw (.slice none 0 0)), .dc (.raw (.slice none 0 0))], .box [.dc (.raw (.bool false)), .dc (.raw (.slice none 0 0)), .dc (.raw (.slice none 0 0))], .box [.dc (.slc (gs.map Gr.e)), .dc (.slc (ws.map Wt.e))], .box [.dc (.slc (gA.map Gr.e)), .dc (.slc (ws.map Wt.e))], .dead, .dead, .box [.dc (.slc (g.map Gr.e)), .dc (.slc (w.map Wt.e))], .box [.dc (.raw (.bool true)), .bld 10 B.length, .bld 11 F.length], .arr 0 2 (B.map Br.e), .arr 0 2 (F.map Wt.e)]⟩
set_option maxHeartbeats 4000000 in
theorem tqA0_go (gs : List Gr) (a : Ac) (g : List Gr) (w : Wt) (W : List Wt) (B : List Br) (F : List Wt) (hg : g.length ≤ 1000) (hW : W.length ≤ 1000) (hB : B.length ≤ 10000) (hF : F.length ≤ 10000) (hh : held (brGs g w.c w.k) w.c w.k = false) :
    rnK [4, 0, 0, 2] 12 (EC (EV G (Tb (bs bb))) G h74l0 (tqA0 g gs (w :: W) a g (w :: W) B F)) = some (tqA1 g gs (w :: W) a (didF (brGs g w.c w.k) w.c w.k) W (B ++ brBs g w.c w.k) (F ++ [w])) := by
  unfold tqA0 tqA1
  have e0 := brGs_len g w.c w.k
  have b0 := brBs_len g w.c w.k
  have q1 := rbroken_v (G := G) (bb := bb) g (w :: W) w.c w.k (by omega) (by simp; omega)
  have q2 := rheld_v (G := G) (bb := bb) (brGs g w.c w.k) (w :: W) w.c w.k (by omega)
  have q3 := rdid_v (G := G) (bb := bb) (brGs g w.c w.k) W w.c w.k (by omega)
  simp only [brkH] at q1
  generalize didF (brGs g w.c w.k) w.c w.k = gd at *
  generalize brGs g w.c w.k = g' at *
  generalize brBs g w.c w.k = b' at *
  have hn : ((w :: W).length : Int) > 0 := by rw [List.length_cons]; omega
  have eg : ((w :: W).map Wt.e)[0]? = some [ci w.c, ci w.k] := rfl
  have hd1 : List.drop 1 ((w :: W).map Wt.e) = W.map Wt.e := rfl
  have hln : (w :: W).length = W.length + 1 := rfl
  generalize w :: W = L at *
  have tL : List.take L.length (L.map Wt.e) = L.map Wt.e := List.take_of_length_le (by simp)
  have tg : List.take g.length (g'.map Gr.e) = g'.map Gr.e := List.take_of_length_le (by simp; omega)
  have tb : List.take b'.length (b'.map Br.e) = b'.map Br.e := List.take_of_length_le (by simp)
  have tB : List.take B.length (B.map Br.e) = B.map Br.e := List.take_of_length_le (by simp)
  have tF : List.take F.length (F.map Wt.e) = F.map Wt.e := List.take_of_length_le (by simp)
  rw [hh] at q2
  simp (maxSteps := 1000000) (disch := omega) only [go_sem, h74l0, eg, hn, q1, q2, q3, e0, hd1, tL, tg, tb, tB, tF, allLen_wt, allLen_br, Wt.e, List.take_length, List.length_append, List.length_cons, List.length_nil, List.map_append, List.map_cons, List.map_nil]
set_option maxHeartbeats 4000000 in
theorem tqA0_st (gs : List Gr) (a : Ac) (g : List Gr) (w : Wt) (W : List Wt) (B : List Br) (F : List Wt) (hg : g.length ≤ 1000) (hW : W.length ≤ 1000) (hB : B.length ≤ 10000) (hF : F.length ≤ 10000) (hh : held (brGs g w.c w.k) w.c w.k = true) :
    retZ false [RetV.cell 4 true 2, RetV.cell 5 true 3] 0 (sqK (EV G (Tb (bs bb))) G ((HC.drawnF [(1, 2)] [Oo 159 (AI.load true 2 (AArg.t 6)), Oo 160 (AI.load true 3 (AArg.t 9)), On (AI.store 2 (AArg.t 4) (AArg.t 159)), On (AI.store 3 (AArg.t 5) (AArg.t 160))]).seq HC.ret) (blkK 1 (EL (EV G (Tb (bs bb))) G h74l0 [4, 0, 0, 2] 12 (tqA0 g gs (w :: W) a g (w :: W) B F)))) = some (rspV (brGs g w.c w.k, w :: W, ⟨true, B ++ brBs g w.c w.k, F⟩), []) := by
  rw [EL_unf]
  unfold tqA0
  have e0 := brGs_len g w.c w.k
  have b0 := brBs_len g w.c w.k
  have q1 := rbroken_v (G := G) (bb := bb) g (w :: W) w.c w.k (by omega) (by simp; omega)
  have q2 := rheld_v (G := G) (bb := bb) (brGs g w.c w.k) (w :: W) w.c w.k (by omega)
  have q3 := rdid_v (G := G) (bb := bb) (brGs g w.c w.k) W w.c w.k (by omega)
  simp only [brkH] at q1
  generalize didF (brGs g w.c w.k) w.c w.k = gd at *
  generalize brGs g w.c w.k = g' at *
  generalize brBs g w.c w.k = b' at *
  have hn : ((w :: W).length : Int) > 0 := by rw [List.length_cons]; omega
  have eg : ((w :: W).map Wt.e)[0]? = some [ci w.c, ci w.k] := rfl
  have hd1 : List.drop 1 ((w :: W).map Wt.e) = W.map Wt.e := rfl
  have hln : (w :: W).length = W.length + 1 := rfl
  generalize w :: W = L at *
  have tL : List.take L.length (L.map Wt.e) = L.map Wt.e := List.take_of_length_le (by simp)
  have tg : List.take g.length (g'.map Gr.e) = g'.map Gr.e := List.take_of_length_le (by simp; omega)
  have tb : List.take b'.length (b'.map Br.e) = b'.map Br.e := List.take_of_length_le (by simp)
  have tB : List.take B.length (B.map Br.e) = B.map Br.e := List.take_of_length_le (by simp)
  have tF : List.take F.length (F.map Wt.e) = F.map Wt.e := List.take_of_length_le (by simp)
  rw [hh] at q2
  simp only [rspV, List.map_append]
  have tBb : List.take (B.length + b'.length) (B.map Br.e ++ b'.map Br.e) = B.map Br.e ++ b'.map Br.e := List.take_of_length_le (by simp)
  simp (maxSteps := 1000000) (disch := omega) only [go_sem, h74l0, tBb, eg, hn, q1, q2, q3, e0, hd1, tL, tg, tb, tB, tF, allLen_wt, allLen_br, Wt.e, List.take_length, List.length_append, List.length_cons, List.length_nil, List.map_append, List.map_cons, List.map_nil]
  rw [fvT_b (by rfl) (by simp)]
  simp (disch := omega) only [go_sem]
  rw [fvT_b (by rfl) (by simp)]
  simp (disch := omega) only [go_sem, tBb, eg, hn, q1, q2, q3, e0, hd1, tL, tg, tb, tB, tF, allLen_wt, allLen_br, Wt.e, List.take_length, List.length_append, List.length_cons, List.length_nil, List.map_append, List.map_cons, List.map_nil]
  try rfl
set_option maxHeartbeats 4000000 in
theorem tqA0_no (gs : List Gr) (a : Ac) (g : List Gr) (B : List Br) (F : List Wt) (hg : g.length ≤ 1000) (hB : B.length ≤ 10000) (hF : F.length ≤ 10000) :
    retZ false [RetV.cell 4 true 2, RetV.cell 5 true 3] 0 (sqK (EV G (Tb (bs bb))) G ((HC.drawnF [(1, 2)] [Oo 159 (AI.load true 2 (AArg.t 6)), Oo 160 (AI.load true 3 (AArg.t 9)), On (AI.store 2 (AArg.t 4) (AArg.t 159)), On (AI.store 3 (AArg.t 5) (AArg.t 160))]).seq HC.ret) (blkK 1 (EL (EV G (Tb (bs bb))) G h74l0 [4, 0, 0, 2] 12 (tqA0 g gs [] a g [] B F)))) = some (rspV (g, [], ⟨true, B, F⟩), []) := by
  rw [EL_unf]
  unfold tqA0
  have tB : List.take B.length (B.map Br.e) = B.map Br.e := List.take_of_length_le (by simp)
  have tF : List.take F.length (F.map Wt.e) = F.map Wt.e := List.take_of_length_le (by simp)
  simp (maxSteps := 1000000) (disch := omega) only [go_sem, h74l0, tB, tF, List.take_length, List.length_nil, List.map_nil]
  rw [fvT_b (by rfl) (by simp)]
  simp (disch := omega) only [go_sem]
  rw [fvT_b (by rfl) (by simp)]
  simp (disch := omega) only [go_sem, tB, tF, List.take_length, List.length_nil, List.map_nil]
  try rfl
set_option maxHeartbeats 4000000 in
theorem tqA1_go (gA : List Gr) (gs : List Gr) (ws : List Wt) (a : Ac) (g : List Gr) (w : Wt) (W : List Wt) (B : List Br) (F : List Wt) (hg : g.length ≤ 1000) (hW : W.length ≤ 1000) (hB : B.length ≤ 10000) (hF : F.length ≤ 10000) (hh : held (brGs g w.c w.k) w.c w.k = false) :
    rnK [4, 0, 0, 2] 12 (EC (EV G (Tb (bs bb))) G h74l0 (tqA1 gA gs ws a g (w :: W) B F)) = some (tqA1 gA gs ws a (didF (brGs g w.c w.k) w.c w.k) W (B ++ brBs g w.c w.k) (F ++ [w])) := by
  unfold tqA1
  have e0 := brGs_len g w.c w.k
  have b0 := brBs_len g w.c w.k
  have q1 := rbroken_v (G := G) (bb := bb) g (w :: W) w.c w.k (by omega) (by simp; omega)
  have q2 := rheld_v (G := G) (bb := bb) (brGs g w.c w.k) (w :: W) w.c w.k (by omega)
  have q3 := rdid_v (G := G) (bb := bb) (brGs g w.c w.k) W w.c w.k (by omega)
  simp only [brkH] at q1
  generalize didF (brGs g w.c w.k) w.c w.k = gd at *
  generalize brGs g w.c w.k = g' at *
  generalize brBs g w.c w.k = b' at *
  have hn : ((w :: W).length : Int) > 0 := by rw [List.length_cons]; omega
  have eg : ((w :: W).map Wt.e)[0]? = some [ci w.c, ci w.k] := rfl
  have hd1 : List.drop 1 ((w :: W).map Wt.e) = W.map Wt.e := rfl
  have hln : (w :: W).length = W.length + 1 := rfl
  generalize w :: W = L at *
  have tL : List.take L.length (L.map Wt.e) = L.map Wt.e := List.take_of_length_le (by simp)
  have tg : List.take g.length (g'.map Gr.e) = g'.map Gr.e := List.take_of_length_le (by simp; omega)
  have tb : List.take b'.length (b'.map Br.e) = b'.map Br.e := List.take_of_length_le (by simp)
  have tB : List.take B.length (B.map Br.e) = B.map Br.e := List.take_of_length_le (by simp)
  have tF : List.take F.length (F.map Wt.e) = F.map Wt.e := List.take_of_length_le (by simp)
  rw [hh] at q2
  simp (maxSteps := 1000000) (disch := omega) only [go_sem, h74l0, eg, hn, q1, q2, q3, e0, hd1, tL, tg, tb, tB, tF, allLen_wt, allLen_br, Wt.e, List.take_length, List.length_append, List.length_cons, List.length_nil, List.map_append, List.map_cons, List.map_nil]
set_option maxHeartbeats 4000000 in
theorem tqA1_st (gA : List Gr) (gs : List Gr) (ws : List Wt) (a : Ac) (g : List Gr) (w : Wt) (W : List Wt) (B : List Br) (F : List Wt) (hg : g.length ≤ 1000) (hW : W.length ≤ 1000) (hB : B.length ≤ 10000) (hF : F.length ≤ 10000) (hh : held (brGs g w.c w.k) w.c w.k = true) :
    retZ false [RetV.cell 4 true 2, RetV.cell 5 true 3] 0 (sqK (EV G (Tb (bs bb))) G ((HC.drawnF [(1, 2)] [Oo 159 (AI.load true 2 (AArg.t 6)), Oo 160 (AI.load true 3 (AArg.t 9)), On (AI.store 2 (AArg.t 4) (AArg.t 159)), On (AI.store 3 (AArg.t 5) (AArg.t 160))]).seq HC.ret) (blkK 1 (EL (EV G (Tb (bs bb))) G h74l0 [4, 0, 0, 2] 12 (tqA1 gA gs ws a g (w :: W) B F)))) = some (rspV (brGs g w.c w.k, w :: W, ⟨true, B ++ brBs g w.c w.k, F⟩), []) := by
  rw [EL_unf]
  unfold tqA1
  have e0 := brGs_len g w.c w.k
  have b0 := brBs_len g w.c w.k
  have q1 := rbroken_v (G := G) (bb := bb) g (w :: W) w.c w.k (by omega) (by simp; omega)
  have q2 := rheld_v (G := G) (bb := bb) (brGs g w.c w.k) (w :: W) w.c w.k (by omega)
  have q3 := rdid_v (G := G) (bb := bb) (brGs g w.c w.k) W w.c w.k (by omega)
  simp only [brkH] at q1
  generalize didF (brGs g w.c w.k) w.c w.k = gd at *
  generalize brGs g w.c w.k = g' at *
  generalize brBs g w.c w.k = b' at *
  have hn : ((w :: W).length : Int) > 0 := by rw [List.length_cons]; omega
  have eg : ((w :: W).map Wt.e)[0]? = some [ci w.c, ci w.k] := rfl
  have hd1 : List.drop 1 ((w :: W).map Wt.e) = W.map Wt.e := rfl
  have hln : (w :: W).length = W.length + 1 := rfl
  generalize w :: W = L at *
  have tL : List.take L.length (L.map Wt.e) = L.map Wt.e := List.take_of_length_le (by simp)
  have tg : List.take g.length (g'.map Gr.e) = g'.map Gr.e := List.take_of_length_le (by simp; omega)
  have tb : List.take b'.length (b'.map Br.e) = b'.map Br.e := List.take_of_length_le (by simp)
  have tB : List.take B.length (B.map Br.e) = B.map Br.e := List.take_of_length_le (by simp)
  have tF : List.take F.length (F.map Wt.e) = F.map Wt.e := List.take_of_length_le (by simp)
  rw [hh] at q2
  simp only [rspV, List.map_append]
  have tBb : List.take (B.length + b'.length) (B.map Br.e ++ b'.map Br.e) = B.map Br.e ++ b'.map Br.e := List.take_of_length_le (by simp)
  simp (maxSteps := 1000000) (disch := omega) only [go_sem, h74l0, tBb, eg, hn, q1, q2, q3, e0, hd1, tL, tg, tb, tB, tF, allLen_wt, allLen_br, Wt.e, List.take_length, List.length_append, List.length_cons, List.length_nil, List.map_append, List.map_cons, List.map_nil]
  rw [fvT_b (by rfl) (by simp)]
  simp (disch := omega) only [go_sem]
  rw [fvT_b (by rfl) (by simp)]
  simp (disch := omega) only [go_sem, tBb, eg, hn, q1, q2, q3, e0, hd1, tL, tg, tb, tB, tF, allLen_wt, allLen_br, Wt.e, List.take_length, List.length_append, List.length_cons, List.length_nil, List.map_append, List.map_cons, List.map_nil]
  try rfl
set_option maxHeartbeats 4000000 in
theorem tqA1_no (gA : List Gr) (gs : List Gr) (ws : List Wt) (a : Ac) (g : List Gr) (B : List Br) (F : List Wt) (hg : g.length ≤ 1000) (hB : B.length ≤ 10000) (hF : F.length ≤ 10000) :
    retZ false [RetV.cell 4 true 2, RetV.cell 5 true 3] 0 (sqK (EV G (Tb (bs bb))) G ((HC.drawnF [(1, 2)] [Oo 159 (AI.load true 2 (AArg.t 6)), Oo 160 (AI.load true 3 (AArg.t 9)), On (AI.store 2 (AArg.t 4) (AArg.t 159)), On (AI.store 3 (AArg.t 5) (AArg.t 160))]).seq HC.ret) (blkK 1 (EL (EV G (Tb (bs bb))) G h74l0 [4, 0, 0, 2] 12 (tqA1 gA gs ws a g [] B F)))) = some (rspV (g, [], ⟨true, B, F⟩), []) := by
  rw [EL_unf]
  unfold tqA1
  have tB : List.take B.length (B.map Br.e) = B.map Br.e := List.take_of_length_le (by simp)
  have tF : List.take F.length (F.map Wt.e) = F.map Wt.e := List.take_of_length_le (by simp)
  simp (maxSteps := 1000000) (disch := omega) only [go_sem, h74l0, tB, tF, List.take_length, List.length_nil, List.map_nil]
  rw [fvT_b (by rfl) (by simp)]
  simp (disch := omega) only [go_sem]
  rw [fvT_b (by rfl) (by simp)]
  simp (disch := omega) only [go_sem, tB, tF, List.take_length, List.length_nil, List.map_nil]
  try rfl
theorem tqA1_key (gA : List Gr) (gs : List Gr) (ws : List Wt) (a : Ac) : ∀ (W : List Wt) (g : List Gr) (B : List Br) (F : List Wt), Vd g W → B.length + 8 * W.length ≤ 1000 → F.length + W.length ≤ 1000 →
    retZ false [RetV.cell 4 true 2, RetV.cell 5 true 3] 0 (sqK (EV G (Tb (bs bb))) G ((HC.drawnF [(1, 2)] [Oo 159 (AI.load true 2 (AArg.t 6)), Oo 160 (AI.load true 3 (AArg.t 9)), On (AI.store 2 (AArg.t 4) (AArg.t 159)), On (AI.store 3 (AArg.t 5) (AArg.t 160))]).seq HC.ret) (blkK 1 (EL (EV G (Tb (bs bb))) G h74l0 [4, 0, 0, 2] 12 (tqA1 gA gs ws a g W B F)))) = some (rspV ((thr g W).1, (thr g W).2.1, ⟨true, B ++ (thr g W).2.2.1, F ++ (thr g W).2.2.2⟩), [])
  | [], g, B, F, hV, hB, hF => by
    have := hV.gl
    rw [tqA1_no gA gs ws a g B F (by omega) (by omega) (by omega)]
    simp only [thr, List.append_nil]
  | w :: W, g, B, F, hV, hB, hF => by
    have h1 := hV.gl
    have h2 := hV.wl
    have h3 := brBs_len g w.c w.k
    have h4 := hV.br w.c w.k
    simp only [List.length_cons] at h2 hB hF
    rw [thr]
    cases hh : held (brGs g w.c w.k) w.c w.k with
    | true =>
      rw [if_pos rfl, tqA1_st gA gs ws a g w W B F (by omega) (by omega) (by omega) (by omega) hh]
      simp only [List.append_nil]
    | false =>
      obtain ⟨i1, i2, i3⟩ := hV.wr w List.mem_cons_self
      have h5 := h4.tail.dn i1 (fun x hx => Ne.symm ((List.pairwise_cons.1 hV.wd).1 x hx)) (by rw [hh]; simp)
      have h6 : didF (brGs g w.c w.k) w.c w.k = did (brGs g w.c w.k) w.c w.k := didF_did h4.so (fun h0 => by rw [brGs_in]; exact i3.1 h0)
      rw [if_neg (by simp), EL_unf, fnK_of (tqA1_go gA gs ws a g w W B F (by omega) (by omega) (by omega) (by omega) hh), h6]
      have ih := tqA1_key gA gs ws a W _ (B ++ brBs g w.c w.k) (F ++ [w]) h5 (by simp; omega) (by simp; omega)
      rw [ih]
      simp only [List.append_assoc, List.cons_append, List.nil_append]
theorem tqA0_key (gs : List Gr) (a : Ac) (W : List Wt) (g : List Gr) (hV : Vd g W) :
    retZ false [RetV.cell 4 true 2, RetV.cell 5 true 3] 0 (sqK (EV G (Tb (bs bb))) G ((HC.drawnF [(1, 2)] [Oo 159 (AI.load true 2 (AArg.t 6)), Oo 160 (AI.load true 3 (AArg.t 9)), On (AI.store 2 (AArg.t 4) (AArg.t 159)), On (AI.store 3 (AArg.t 5) (AArg.t 160))]).seq HC.ret) (blkK 1 (EL (EV G (Tb (bs bb))) G h74l0 [4, 0, 0, 2] 12 (tqA0 g gs W a g W [] [])))) = some (rspV (thA (thr g W)), []) := by
  have h1 := hV.gl
  have h2 := hV.wl
  match W, hV, h2 with
  | [], hV, h2 =>
    rw [tqA0_no gs a g [] [] (by omega) (by simp) (by simp)]
    rfl
  | w :: W, hV, h2 =>
    have h3 := brBs_len g w.c w.k
    have h4 := hV.br w.c w.k
    simp only [List.length_cons] at h2
    rw [thr]
    cases hh : held (brGs g w.c w.k) w.c w.k with
    | true =>
      rw [if_pos rfl, tqA0_st gs a g w W [] [] (by omega) (by omega) (by simp) (by simp) hh]
      rfl
    | false =>
      obtain ⟨i1, i2, i3⟩ := hV.wr w List.mem_cons_self
      have h5 := h4.tail.dn i1 (fun x hx => Ne.symm ((List.pairwise_cons.1 hV.wd).1 x hx)) (by rw [hh]; simp)
      have h6 : didF (brGs g w.c w.k) w.c w.k = did (brGs g w.c w.k) w.c w.k := didF_did h4.so (fun h0 => by rw [brGs_in]; exact i3.1 h0)
      rw [if_neg (by simp), EL_unf, fnK_of (tqA0_go gs a g w W [] [] (by omega) (by omega) (by simp) (by simp) hh), h6]
      rw [tqA1_key g gs (w :: W) a W _ ([] ++ brBs g w.c w.k) ([] ++ [w]) h5 (by simp; omega) (by simp; omega)]
      rfl
def tqC0 (gs : List Gr) (ws : List Wt) (a : Ac) (g : List Gr) (w : List Wt) (B : List Br) (F : List Wt) : AS := ⟨(jk 4 (.one (.ptr 2 0) :: .one (.ptr 3 0) :: .one (.ptr 8 0) :: jk 2 (.one (.ptr 9 0) :: jk 151 []))), [.box [.dc (.slc (gs.map Gr.e)), .dc (.slc (ws.map Wt.e))], .box [.dc (ci a.k), .dc (ci a.c), .dc (ci a.l)], .box [.dc (.raw (.slice none 0 0)), .dc (.raw (.slice none 0 0))], .box [.dc (.raw (.bool false)), .dc (.raw (.slice none 0 0)), .dc (.raw (.slice none 0 0))], .box [.dc (.slc (gs.map Gr.e)), .dc (.slc (ws.map Wt.e))], .box [.dc (.slc (gs.map Gr.e)), .dc (.slc (w.map Wt.e))], .dead, .dead, .box [.bld 12 g.length, .dc (.slc (w.map Wt.e))], .box [.dc (.raw (.bool true)), .bld 10 B.length, .bld 11 F.length], .arr 0 2 (B.map Br.e), .arr 0 2 (F.map Wt.e), .arr 0 3 (g.map Gr.e)]⟩
def tqC1 (gs : List Gr) (ws : List Wt) (a : Ac) (g : List Gr) (w : List Wt) (B : List Br) (F : List Wt) : AS := ⟨(jk 4 (.one (.ptr 2 0) :: .one (.ptr 3 0) :: .one (.ptr 8 0) :: jk 2 (.one (.ptr 9 0) :: jk 151 []))), [.box [.dc (.slc (gs.map Gr.e)), .dc (.slc (ws.map Wt.e))], .box [.dc (ci a.k), .dc (ci a.c), .dc (ci a.l)], .box [.dc (.raw (.slice none 0 0)), .dc (.raw (.slice none 0 0))], .box [.dc (.raw (.bool false)), .dc (.raw (.slice none 0 0)), .dc (.raw (.slice none 0 0))], .box [.dc (.slc (gs.map Gr.e)), .dc (.slc (ws.map Wt.e))], .box [.dc (.slc (gs.map Gr.e)), .dc (.slc (ws.map Wt.e))], .dead, .dead, .box [.dc (.slc (g.map Gr.e)), .dc (.slc (w.map Wt.e))], .box [.dc (.raw (.bool true)), .bld 10 B.length, .bld 11 F.length], .arr 0 2 (B.map Br.e), .arr 0 2 (F.map Wt.e), .dead]⟩
set_option maxHeartbeats 4000000 in
theorem tqC0_go (gs : List Gr) (a : Ac) (g : List Gr) (w : Wt) (W : List Wt) (B : List Br) (F : List Wt) (hg : g.length ≤ 1000) (hW : W.length ≤ 1000) (hB : B.length ≤ 10000) (hF : F.length ≤ 10000) (hh : held (brGs g w.c w.k) w.c w.k = false) :
    rnK [4, 0, 0, 2] 13 (EC (EV G (Tb (bs bb))) G h74l0 (tqC0 gs (w :: W) a g (w :: W) B F)) = some (tqC1 gs (w :: W) a (didF (brGs g w.c w.k) w.c w.k) W (B ++ brBs g w.c w.k) (F ++ [w])) := by
  unfold tqC0 tqC1
  have e0 := brGs_len g w.c w.k
  have b0 := brBs_len g w.c w.k
  have q1 := rbroken_v (G := G) (bb := bb) g (w :: W) w.c w.k (by omega) (by simp; omega)
  have q2 := rheld_v (G := G) (bb := bb) (brGs g w.c w.k) (w :: W) w.c w.k (by omega)
  have q3 := rdid_v (G := G) (bb := bb) (brGs g w.c w.k) W w.c w.k (by omega)
  simp only [brkH] at q1
  generalize didF (brGs g w.c w.k) w.c w.k = gd at *
  generalize brGs g w.c w.k = g' at *
  generalize brBs g w.c w.k = b' at *
  have hn : ((w :: W).length : Int) > 0 := by rw [List.length_cons]; omega
  have eg : ((w :: W).map Wt.e)[0]? = some [ci w.c, ci w.k] := rfl
  have hd1 : List.drop 1 ((w :: W).map Wt.e) = W.map Wt.e := rfl
  have hln : (w :: W).length = W.length + 1 := rfl
  generalize w :: W = L at *
  have tL : List.take L.length (L.map Wt.e) = L.map Wt.e := List.take_of_length_le (by simp)
  have tg : List.take g.length (g'.map Gr.e) = g'.map Gr.e := List.take_of_length_le (by simp; omega)
  have tb : List.take b'.length (b'.map Br.e) = b'.map Br.e := List.take_of_length_le (by simp)
  have tB : List.take B.length (B.map Br.e) = B.map Br.e := List.take_of_length_le (by simp)
  have tF : List.take F.length (F.map Wt.e) = F.map Wt.e := List.take_of_length_le (by simp)
  rw [hh] at q2
  simp (maxSteps := 1000000) (disch := omega) only [go_sem, h74l0, eg, hn, q1, q2, q3, e0, hd1, tL, tg, tb, tB, tF, allLen_wt, allLen_br, Wt.e, List.take_length, List.length_append, List.length_cons, List.length_nil, List.map_append, List.map_cons, List.map_nil]
set_option maxHeartbeats 4000000 in
theorem tqC0_st (gs : List Gr) (a : Ac) (g : List Gr) (w : Wt) (W : List Wt) (B : List Br) (F : List Wt) (hg : g.length ≤ 1000) (hW : W.length ≤ 1000) (hB : B.length ≤ 10000) (hF : F.length ≤ 10000) (hh : held (brGs g w.c w.k) w.c w.k = true) :
    retZ false [RetV.cell 4 true 2, RetV.cell 5 true 3] 0 (sqK (EV G (Tb (bs bb))) G ((HC.drawnF [(1, 2)] [Oo 159 (AI.load true 2 (AArg.t 6)), Oo 160 (AI.load true 3 (AArg.t 9)), On (AI.store 2 (AArg.t 4) (AArg.t 159)), On (AI.store 3 (AArg.t 5) (AArg.t 160))]).seq HC.ret) (blkK 1 (EL (EV G (Tb (bs bb))) G h74l0 [4, 0, 0, 2] 13 (tqC0 gs (w :: W) a g (w :: W) B F)))) = some (rspV (brGs g w.c w.k, w :: W, ⟨true, B ++ brBs g w.c w.k, F⟩), []) := by
  rw [EL_unf]
  unfold tqC0
  have e0 := brGs_len g w.c w.k
  have b0 := brBs_len g w.c w.k
  have q1 := rbroken_v (G := G) (bb := bb) g (w :: W) w.c w.k (by omega) (by simp; omega)
  have q2 := rheld_v (G := G) (bb := bb) (brGs g w.c w.k) (w :: W) w.c w.k (by omega)
  have q3 := rdid_v (G := G) (bb := bb) (brGs g w.c w.k) W w.c w.k (by omega)
  simp only [brkH] at q1
  generalize didF (brGs g w.c w.k) w.c w.k = gd at *
  generalize brGs g w.c w.k = g' at *
  generalize brBs g w.c w.k = b' at *
  have hn : ((w :: W).length : Int) > 0 := by rw [List.length_cons]; omega
  have eg : ((w :: W).map Wt.e)[0]? = some [ci w.c, ci w.k] := rfl
  have hd1 : List.drop 1 ((w :: W).map Wt.e) = W.map Wt.e := rfl
  have hln : (w :: W).length = W.length + 1 := rfl
  generalize w :: W = L at *
  have tL : List.take L.length (L.map Wt.e) = L.map Wt.e := List.take_of_length_le (by simp)
  have tg : List.take g.length (g'.map Gr.e) = g'.map Gr.e := List.take_of_length_le (by simp; omega)
  have tb : List.take b'.length (b'.map Br.e) = b'.map Br.e := List.take_of_length_le (by simp)
  have tB : List.take B.length (B.map Br.e) = B.map Br.e := List.take_of_length_le (by simp)
  have tF : List.take F.length (F.map Wt.e) = F.map Wt.e := List.take_of_length_le (by simp)
  rw [hh] at q2
  simp only [rspV, List.map_append]
  have tBb : List.take (B.length + b'.length) (B.map Br.e ++ b'.map Br.e) = B.map Br.e ++ b'.map Br.e := List.take_of_length_le (by simp)
  simp (maxSteps := 1000000) (disch := omega) only [go_sem, h74l0, tBb, eg, hn, q1, q2, q3, e0, hd1, tL, tg, tb, tB, tF, allLen_wt, allLen_br, Wt.e, List.take_length, List.length_append, List.length_cons, List.length_nil, List.map_append, List.map_cons, List.map_nil]
  rw [fvT_b (by rfl) (by simp)]
  simp (disch := omega) only [go_sem]
  rw [fvT_b (by rfl) (by simp)]
  simp (disch := omega) only [go_sem, tBb, eg, hn, q1, q2, q3, e0, hd1, tL, tg, tb, tB, tF, allLen_wt, allLen_br, Wt.e, List.take_length, List.length_append, List.length_cons, List.length_nil, List.map_append, List.map_cons, List.map_nil]
  try rfl
set_option maxHeartbeats 4000000 in
theorem tqC0_no (gs : List Gr) (a : Ac) (g : List Gr) (B : List Br) (F : List Wt) (hg : g.length ≤ 1000) (hB : B.length ≤ 10000) (hF : F.length ≤ 10000) :
    retZ false [RetV.cell 4 true 2, RetV.cell 5 true 3] 0 (sqK (EV G (Tb (bs bb))) G ((HC.drawnF [(1, 2)] [Oo 159 (AI.load true 2 (AArg.t 6)), Oo 160 (AI.load true 3 (AArg.t 9)), On (AI.store 2 (AArg.t 4) (AArg.t 159)), On (AI.store 3 (AArg.t 5) (AArg.t 160))]).seq HC.ret) (blkK 1 (EL (EV G (Tb (bs bb))) G h74l0 [4, 0, 0, 2] 13 (tqC0 gs [] a g [] B F)))) = some (rspV (g, [], ⟨true, B, F⟩), []) := by
  rw [EL_unf]
  unfold tqC0
  have tB : List.take B.length (B.map Br.e) = B.map Br.e := List.take_of_length_le (by simp)
  have tF : List.take F.length (F.map Wt.e) = F.map Wt.e := List.take_of_length_le (by simp)
  simp (maxSteps := 1000000) (disch := omega) only [go_sem, h74l0, tB, tF, List.take_length, List.length_nil, List.map_nil]
  rw [fvT_b (by rfl) (by simp)]
  simp (disch := omega) only [go_sem]
  rw [fvT_b (by rfl) (by simp)]
  simp (disch := omega) only [go_sem, tB, tF, List.take_length, List.length_nil, List.map_nil]
  try rfl
set_option maxHeartbeats 4000000 in
theorem tqC1_go (gs : List Gr) (ws : List Wt) (a : Ac) (g : List Gr) (w : Wt) (W : List Wt) (B : List Br) (F : List Wt) (hg : g.length ≤ 1000) (hW : W.length ≤ 1000) (hB : B.length ≤ 10000) (hF : F.length ≤ 10000) (hh : held (brGs g w.c w.k) w.c w.k = false) :
    rnK [4, 0, 0, 2] 13 (EC (EV G (Tb (bs bb))) G h74l0 (tqC1 gs ws a g (w :: W) B F)) = some (tqC1 gs ws a (didF (brGs g w.c w.k) w.c w.k) W (B ++ brBs g w.c w.k) (F ++ [w])) := by
  unfold tqC1
  have e0 := brGs_len g w.c w.k
  have b0 := brBs_len g w.c w.k
  have q1 := rbroken_v (G := G) (bb := bb) g (w :: W) w.c w.k (by omega) (by simp; omega)
  have q2 := rheld_v (G := G) (bb := bb) (brGs g w.c w.k) (w :: W) w.c w.k (by omega)
  have q3 := rdid_v (G := G) (bb := bb) (brGs g w.c w.k) W w.c w.k (by omega)
  simp only [brkH] at q1
  generalize didF (brGs g w.c w.k) w.c w.k = gd at *
  generalize brGs g w.c w.k = g' at *
  generalize brBs g w.c w.k = b' at *
  have hn : ((w :: W).length : Int) > 0 := by rw [List.length_cons]; omega
  have eg : ((w :: W).map Wt.e)[0]? = some [ci w.c, ci w.k] := rfl
  have hd1 : List.drop 1 ((w :: W).map Wt.e) = W.map Wt.e := rfl
  have hln : (w :: W).length = W.length + 1 := rfl
  generalize w :: W = L at *
  have tL : List.take L.length (L.map Wt.e) = L.map Wt.e := List.take_of_length_le (by simp)
  have tg : List.take g.length (g'.map Gr.e) = g'.map Gr.e := List.take_of_length_le (by simp; omega)
  have tb : List.take b'.length (b'.map Br.e) = b'.map Br.e := List.take_of_length_le (by simp)
  have tB : List.take B.length (B.map Br.e) = B.map Br.e := List.take_of_length_le (by simp)
  have tF : List.take F.length (F.map Wt.e) = F.map Wt.e := List.take_of_length_le (by simp)
  rw [hh] at q2
  simp (maxSteps := 1000000) (disch := omega) only [go_sem, h74l0, eg, hn, q1, q2, q3, e0, hd1, tL, tg, tb, tB, tF, allLen_wt, allLen_br, Wt.e, List.take_length, List.length_append, List.length_cons, List.length_nil, List.map_append, List.map_cons, List.map_nil]
set_option maxHeartbeats 4000000 in
theorem tqC1_st (gs : List Gr) (ws : List Wt) (a : Ac) (g : List Gr) (w : Wt) (W : List Wt) (B : List Br) (F : List Wt) (hg : g.length ≤ 1000) (hW : W.length ≤ 1000) (hB : B.length ≤ 10000) (hF : F.length ≤ 10000) (hh : held (brGs g w.c w.k) w.c w.k = true) :
    retZ false [RetV.cell 4 true 2, RetV.cell 5 true 3] 0 (sqK (EV G (Tb (bs bb))) G ((HC.drawnF [(1, 2)] [Oo 159 (AI.load true 2 (AArg.t 6)), Oo 160 (AI.load true 3 (AArg.t 9)), On (AI.store 2 (AArg.t 4) (AArg.t 159)), On (AI.store 3 (AArg.t 5) (AArg.t 160))]).seq HC.ret) (blkK 1 (EL (EV G (Tb (bs bb))) G h74l0 [4, 0, 0, 2] 13 (tqC1 gs ws a g (w :: W) B F)))) = some (rspV (brGs g w.c w.k, w :: W, ⟨true, B ++ brBs g w.c w.k, F⟩), []) := by
  rw [EL_unf]
  unfold tqC1
  have e0 := brGs_len g w.c w.k
  have b0 := brBs_len g w.c w.k
  have q1 := rbroken_v (G := G) (bb := bb) g (w :: W) w.c w.k (by omega) (by simp; omega)
  have q2 := rheld_v (G := G) (bb := bb) (brGs g w.c w.k) (w :: W) w.c w.k (by omega)
  have q3 := rdid_v (G := G) (bb := bb) (brGs g w.c w.k) W w.c w.k (by omega)
  simp only [brkH] at q1
  generalize didF (brGs g w.c w.k) w.c w.k = gd at *
  generalize brGs g w.c w.k = g' at *
  generalize brBs g w.c w.k = b' at *
  have hn : ((w :: W).length : Int) > 0 := by rw [List.length_cons]; omega
  have eg : ((w :: W).map Wt.e)[0]? = some [ci w.c, ci w.k] := rfl
  have hd1 : List.drop 1 ((w :: W).map Wt.e) = W.map Wt.e := rfl
  have hln : (w :: W).length = W.length + 1 := rfl
  generalize w :: W = L at *
  have tL : List.take L.length (L.map Wt.e) = L.map Wt.e := List.take_of_length_le (by simp)
  have tg : List.take g.length (g'.map Gr.e) = g'.map Gr.e := List.take_of_length_le (by simp; omega)
  have tb : List.take b'.length (b'.map Br.e) = b'.map Br.e := List.take_of_length_le (by simp)
  have tB : List.take B.length (B.map Br.e) = B.map Br.e := List.take_of_length_le (by simp)
  have tF : List.take F.length (F.map Wt.e) = F.map Wt.e := List.take_of_length_le (by simp)
  rw [hh] at q2
  simp only [rspV, List.map_append]
  have tBb : List.take (B.length + b'.length) (B.map Br.e ++ b'.map Br.e) = B.map Br.e ++ b'.map Br.e := List.take_of_length_le (by simp)
  simp (maxSteps := 1000000) (disch := omega) only [go_sem, h74l0, tBb, eg, hn, q1, q2, q3, e0, hd1, tL, tg, tb, tB, tF, allLen_wt, allLen_br, Wt.e, List.take_length, List.length_append, List.length_cons, List.length_nil, List.map_append, List.map_cons, List.map_nil]
  rw [fvT_b (by rfl) (by simp)]
  simp (disch := omega) only [go_sem]
  rw [fvT_b (by rfl) (by simp)]
  simp (disch := omega) only [go_sem, tBb, eg, hn, q1, q2, q3, e0, hd1, tL, tg, tb, tB, tF, allLen_wt, allLen_br, Wt.e, List.take_length, List.length_append, List.length_cons, List.length_nil, List.map_append, List.map_cons, List.map_nil]
  try rfl
set_option maxHeartbeats 4000000 in
theorem tqC1_no (gs : List Gr) (ws : List Wt) (a : Ac) (g : List Gr) (B : List Br) (F : List Wt) (hg : g.length ≤ 1000) (hB : B.length ≤ 10000) (hF : F.length ≤ 10000) :
    retZ false [RetV.cell 4 true 2, RetV.cell 5 true 3] 0 (sqK (EV G (Tb (bs bb))) G ((HC.drawnF [(1, 2)] [Oo 159 (AI.load true 2 (AArg.t 6)), Oo 160 (AI.load true 3 (AArg.t 9)), On (AI.store 2 (AArg.t 4) (AArg.t 159)), On (AI.store 3 (AArg.t 5) (AArg.t 160))]).seq HC.ret) (blkK 1 (EL (EV G (Tb (bs bb))) G h74l0 [4, 0, 0, 2] 13 (tqC1 gs ws a g [] B F)))) = some (rspV (g, [], ⟨true, B, F⟩), []) := by
  rw [EL_unf]
  unfold tqC1
  have tB : List.take B.length (B.map Br.e) = B.map Br.e := List.take_of_length_le (by simp)
  have tF : List.take F.length (F.map Wt.e) = F.map Wt.e := List.take_of_length_le (by simp)
  simp (maxSteps := 1000000) (disch := omega) only [go_sem, h74l0, tB, tF, List.take_length, List.length_nil, List.map_nil]
  rw [fvT_b (by rfl) (by simp)]
  simp (disch := omega) only [go_sem]
  rw [fvT_b (by rfl) (by simp)]
  simp (disch := omega) only [go_sem, tB, tF, List.take_length, List.length_nil, List.map_nil]
  try rfl
theorem tqC1_key (gs : List Gr) (ws : List Wt) (a : Ac) : ∀ (W : List Wt) (g : List Gr) (B : List Br) (F : List Wt), Vd g W → B.length + 8 * W.length ≤ 1000 → F.length + W.length ≤ 1000 →
    retZ false [RetV.cell 4 true 2, RetV.cell 5 true 3] 0 (sqK (EV G (Tb (bs bb))) G ((HC.drawnF [(1, 2)] [Oo 159 (AI.load true 2 (AArg.t 6)), Oo 160 (AI.load true 3 (AArg.t 9)), On (AI.store 2 (AArg.t 4) (AArg.t 159)), On (AI.store 3 (AArg.t 5) (AArg.t 160))]).seq HC.ret) (blkK 1 (EL (EV G (Tb (bs bb))) G h74l0 [4, 0, 0, 2] 13 (tqC1 gs ws a g W B F)))) = some (rspV ((thr g W).1, (thr g W).2.1, ⟨true, B ++ (thr g W).2.2.1, F ++ (thr g W).2.2.2⟩), [])
  | [], g, B, F, hV, hB, hF => by
    have := hV.gl
    rw [tqC1_no gs ws a g B F (by omega) (by omega) (by omega)]
    simp only [thr, List.append_nil]
  | w :: W, g, B, F, hV, hB, hF => by
    have h1 := hV.gl
    have h2 := hV.wl
    have h3 := brBs_len g w.c w.k
    have h4 := hV.br w.c w.k
    simp only [List.length_cons] at h2 hB hF
    rw [thr]
    cases hh : held (brGs g w.c w.k) w.c w.k with
    | true =>
      rw [if_pos rfl, tqC1_st gs ws a g w W B F (by omega) (by omega) (by omega) (by omega) hh]
      simp only [List.append_nil]
    | false =>
      obtain ⟨i1, i2, i3⟩ := hV.wr w List.mem_cons_self
      have h5 := h4.tail.dn i1 (fun x hx => Ne.symm ((List.pairwise_cons.1 hV.wd).1 x hx)) (by rw [hh]; simp)
      have h6 : didF (brGs g w.c w.k) w.c w.k = did (brGs g w.c w.k) w.c w.k := didF_did h4.so (fun h0 => by rw [brGs_in]; exact i3.1 h0)
      rw [if_neg (by simp), EL_unf, fnK_of (tqC1_go gs ws a g w W B F (by omega) (by omega) (by omega) (by omega) hh), h6]
      have ih := tqC1_key gs ws a W _ (B ++ brBs g w.c w.k) (F ++ [w]) h5 (by simp; omega) (by simp; omega)
      rw [ih]
      simp only [List.append_assoc, List.cons_append, List.nil_append]
theorem tqC0_key (gs : List Gr) (a : Ac) (W : List Wt) (g : List Gr) (hV : Vd g W) :
    retZ false [RetV.cell 4 true 2, RetV.cell 5 true 3] 0 (sqK (EV G (Tb (bs bb))) G ((HC.drawnF [(1, 2)] [Oo 159 (AI.load true 2 (AArg.t 6)), Oo 160 (AI.load true 3 (AArg.t 9)), On (AI.store 2 (AArg.t 4) (AArg.t 159)), On (AI.store 3 (AArg.t 5) (AArg.t 160))]).seq HC.ret) (blkK 1 (EL (EV G (Tb (bs bb))) G h74l0 [4, 0, 0, 2] 13 (tqC0 gs W a g W [] [])))) = some (rspV (thA (thr g W)), []) := by
  have h1 := hV.gl
  have h2 := hV.wl
  match W, hV, h2 with
  | [], hV, h2 =>
    rw [tqC0_no gs a g [] [] (by omega) (by simp) (by simp)]
    rfl
  | w :: W, hV, h2 =>
    have h3 := brBs_len g w.c w.k
    have h4 := hV.br w.c w.k
    simp only [List.length_cons] at h2
    rw [thr]
    cases hh : held (brGs g w.c w.k) w.c w.k with
    | true =>
      rw [if_pos rfl, tqC0_st gs a g w W [] [] (by omega) (by omega) (by simp) (by simp) hh]
      rfl
    | false =>
      obtain ⟨i1, i2, i3⟩ := hV.wr w List.mem_cons_self
      have h5 := h4.tail.dn i1 (fun x hx => Ne.symm ((List.pairwise_cons.1 hV.wd).1 x hx)) (by rw [hh]; simp)
      have h6 : didF (brGs g w.c w.k) w.c w.k = did (brGs g w.c w.k) w.c w.k := didF_did h4.so (fun h0 => by rw [brGs_in]; exact i3.1 h0)
      rw [if_neg (by simp), EL_unf, fnK_of (tqC0_go gs a g w W [] [] (by omega) (by omega) (by simp) (by simp) hh), h6]
      rw [tqC1_key gs (w :: W) a W _ ([] ++ brBs g w.c w.k) ([] ++ [w]) h5 (by simp; omega) (by simp; omega)]
      rfl
end
section
variable {G : Glob} {bb : Bool}
set_option maxHeartbeats 4000000 in
theorem rstep_4 (gs : List Gr) (ws : List Wt) (a : Ac) (hs : Srt gs) (hi : isIn gs a.c = true) (hl : gs.length ≤ 1000) (hw : ws.length ≤ 1000) (k4 : a.k = 4) (hV : Vd (ackG gs a.c) ws) :
    EV G (Tb (bs bb)) 74 [flV gs ws, a.v] [] = some (rspV (thA (thr (ackG gs a.c) ws)), []) := by
  refine EV_run rfl ?_
  have q := rcopy_v (G := G) (bb := bb) gs ws (by omega) (by omega)
  have q3 := rat_v (G := G) (bb := bb) gs ws a.c (by omega)
  have q4 := rwaits_v (G := G) (bb := bb) a.k
  have hu : isUs a.k = false := by unfold isUs; simp; omega
  have k1 : ¬ a.k = 1 := by omega
  rw [hu] at q4
  rw [at_pos hs hi] at q3
  obtain ⟨hp, he⟩ := (isIn_iff hs a.c).1 hi
  have eg : (gs.map Gr.e)[pos gs a.c]? = some [ci (grE gs a.c).c, ci (grE gs a.c).l, ci (grE gs a.c).t] := by rw [List.getElem?_map, List.getElem?_eq_getElem hp, grE, grAt gs _ hp]; rfl
  have hp' : pos gs a.c < (gs.map Gr.e).length := by simpa using hp
  have e1 := fun x => set_get (x := x) hp'
  have q1 := tqA0_key (G := G) (bb := bb) gs a ws (ackG gs a.c) hV
  unfold tqA0 at q1
  simp only [ack_map, ack_len, List.length_nil, List.map_nil] at q1
  rw [← q1]
  simp (maxSteps := 1000000) (disch := omega) only [go_sem, h74c, q, q3, q4, k1, eq_true k4, eg, e1, meetE_e, List.set_set, List.length_set, List.take_length]
  try rfl
set_option maxHeartbeats 8000000 in
theorem rstep_5 (gs : List Gr) (ws : List Wt) (a : Ac) (hs : Srt gs) (hi : isIn gs a.c = true) (hl : gs.length ≤ 1000) (hw : ws.length ≤ 1000) (k5 : a.k = 5) (hV : Vd (delG gs a.c) ws) :
    EV G (Tb (bs bb)) 74 [flV gs ws, a.v] [] = some (rspV (thA (thr (delG gs a.c) ws)), []) := by
  refine EV_run rfl ?_
  have q := rcopy_v (G := G) (bb := bb) gs ws (by omega) (by omega)
  have q3 := rat_v (G := G) (bb := bb) gs ws a.c (by omega)
  have q4 := rwaits_v (G := G) (bb := bb) a.k
  have hu : isUs a.k = false := by unfold isUs; simp; omega
  have k1 : ¬ a.k = 1 := by omega
  have k4 : ¬ a.k = 4 := by omega
  rw [hu] at q4
  rw [at_pos hs hi] at q3
  obtain ⟨hp, he⟩ := (isIn_iff hs a.c).1 hi
  have q1 := tqC0_key (G := G) (bb := bb) gs a ws (delG gs a.c) hV
  unfold tqC0 at q1
  have dm : (delG gs a.c).map Gr.e = (gs.map Gr.e).take (pos gs a.c) ++ (gs.map Gr.e).drop (pos gs a.c + 1) := by
    unfold delG; rw [List.map_append, List.map_take, List.map_drop]
  simp only [dm, del_len hs hi, List.length_nil, List.map_nil] at q1
  rw [← q1]
  have a1 : allLen 3 (List.take (pos gs a.c) (gs.map Gr.e)) = true := by rw [← List.map_take]; exact allLen_gr _
  have a2 : allLen 3 (List.drop (pos gs a.c + 1) (gs.map Gr.e)) = true := by rw [← List.map_drop]; exact allLen_gr _
  have l1 : (List.take (pos gs a.c) (gs.map Gr.e)).length = pos gs a.c := by simp; omega
  have l2 : (List.drop (pos gs a.c + 1) (gs.map Gr.e)).length = gs.length - (pos gs a.c + 1) := by simp
  have l3 : pos gs a.c + (gs.length - (pos gs a.c + 1)) = gs.length - 1 := by omega
  have t1 : List.take (pos gs a.c) (List.take (pos gs a.c) (gs.map Gr.e)) = List.take (pos gs a.c) (gs.map Gr.e) := by rw [List.take_take, Nat.min_self]
  simp (maxSteps := 1000000) (disch := omega) only [go_sem, h74c, q, q3, q4, k1, k4, eq_true k5, meetE_e, List.take_length, a1, a2, l1, l2, l3, t1]
  try rfl
theorem rstep_v {gs : List Gr} {ws : List Wt} {a : Ac} (hV : Vd gs ws) (hH : Hd gs ws) (he : acErr gs ws a = 0) :
    EV G (Tb (bs bb)) 74 [flV gs ws, a.v] [] = some (rspV (stp gs ws a), []) := by
  have hg := hV.gl
  have hw := hV.wl
  have hus : usErr gs ws a = 0 := by
    unfold acErr at he
    split at he
    · rename_i h1; exact absurd he h1
    · rename_i h1; exact Classical.not_not.1 h1
  obtain ⟨k1, k2, k3, k4, k5⟩ := us_ok hus
  have hi : a.k ≠ 0 → isIn gs a.c = true := fun h0 => by
    cases hi : isIn gs a.c with
    | true => rfl
    | false => exact absurd (k5.2 hi) h0
  unfold stp
  split
  · rename_i hk
    exact rstep_1 gs ws a hV.so (hi (by omega)) (by omega) (by omega) hk
  split
  · rename_i hk
    exact rstep_4 gs ws a hV.so (hi (by omega)) (by omega) (by omega) hk (hV.ack (hi (by omega)))
  split
  · rename_i hk
    exact rstep_5 gs ws a hV.so (hi (by omega)) (by omega) (by omega) hk (hV.del (hi (by omega)) k4)
  rename_i n1 n4 n5
  have hu : isUs a.k = true := by unfold isUs; simp; omega
  unfold useF
  cases ws with
  | nil =>
    rw [if_pos List.length_nil]
    cases hh : held (brGs gs a.c a.k) a.c a.k with
    | true =>
      rw [if_pos rfl]
      exact rstep_h gs a (by omega) hu hh
    | false =>
      rw [if_neg (by simp)]
      have h6 : didF (brGs gs a.c a.k) a.c a.k = did (brGs gs a.c a.k) a.c a.k := didF_did (hV.br a.c a.k).so (fun h0 => by rw [brGs_in]; exact k5.1 h0)
      have := rstep_d (G := G) (bb := bb) gs a (by omega) hu hh
      rw [h6] at this
      exact this
  | cons w ws =>
    rw [if_neg (by simp)]
    simp only [List.length_cons] at hw
    exact rstep_w gs w ws a (by omega) (by omega) hu
end
end Go.Proofs.YtinageiefahjfaaGreatDoor
