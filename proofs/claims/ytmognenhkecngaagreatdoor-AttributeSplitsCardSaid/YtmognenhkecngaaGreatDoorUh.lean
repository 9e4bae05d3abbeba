/- The bytes of an attribute, by the reference, and its error. Conditions: none. -/
import Derived.Test.YtmognenhkecngaaGreatDoorUe
namespace Go.Proofs.YtmognenhkecngaaGreatDoor
section
set_option maxRecDepth 4000
set_option linter.unusedSimpArgs false
set_option linter.unusedVariables false
variable {G : Glob} {bb : Bool}
theorem tys_bd {n : Int} (h : n ∈ tys) : 0 ≤ n ∧ n ≤ 200 := by
  simp only [tys, List.mem_cons, List.not_mem_nil, or_false] at h; omega
theorem nmB_len {l : List Int} (h : nmB l = true) : l.length ≤ 32 := by
  unfold nmB at h
  rcases of_decide_eq_true h with h | h
  · subst h; simp
  · exact h.2.1
theorem chk_bd {l : List Run} (h : (chk l).2 = 0) : l.length ≤ 64 ∧ 0 ≤ lenW l ∧ lenW l ≤ 100000000 := by
  have hF := chk_fine h
  have hl := lenW_eq l (fun r hr => (hF.el r hr).2.2) (by have := hF.sum; omega)
  have hl2 := lenR_nonneg l (fun r hr => (hF.el r hr).2.2)
  have hl3 := hF.sum
  exact ⟨chk_len h, by omega, by omega⟩
theorem othE_0 {a : Att} (h : othE a = 0) : a.ty ∉ rtys ∧ a.va = [] ∧ (0 ≤ a.fi ∧ a.fi ≤ 4096) ∧ (chk a.rs).2 = 0 ∧ ¬(a.fi > 0 ∧ a.rs = []) ∧ a.fi + lenW a.rs ≤ 4096 ∧ ¬(a.fi > 0 ∧ (a.al ≠ 0 ∨ a.sz ≠ 0 ∨ a.vd ≠ 0)) ∧
    ((0 ≤ a.al ∧ a.al ≤ 1048576) ∧ (0 ≤ a.sz ∧ a.sz ≤ 1048576) ∧ (0 ≤ a.vd ∧ a.vd ≤ 1048576)) ∧ a.vd ≤ a.sz := by
  unfold othE at h
  split at h
  · omega
  rename_i h1
  split at h
  · omega
  rename_i h2
  split at h
  · omega
  rename_i h3
  split at h
  · rename_i h4; exact absurd h h4
  rename_i h4
  split at h
  · omega
  rename_i h5
  split at h
  · omega
  rename_i h6
  split at h
  · omega
  rename_i h7
  split at h
  · omega
  rename_i h8
  split at h
  · omega
  rename_i h9
  exact ⟨h1, Classical.not_not.1 h2, Classical.not_not.1 h3, Classical.not_not.1 h4, h5, by omega, h7, Classical.not_not.1 h8, by omega⟩
theorem rsdE_0 {a : Att} (h : rsdE a = 0) : a.rs = [] ∧ a.fi = 0 ∧ a.al = 0 ∧ a.sz = 0 ∧ a.vd = 0 ∧ a.va.length ≤ 400 := by
  unfold rsdE at h
  split at h
  · rename_i h1
    split at h
    · omega
    · obtain ⟨h1, h2, h3, h4, h5⟩ := h1
      exact ⟨h1, h2, h3, h4, h5, by omega⟩
  · omega
theorem Att.bd {a : Att} (hW : a.W) (h1 : a.ty ∈ tys) (h2 : nmB a.nm = true) (h3 : (0 ≤ a.id ∧ a.id ≤ 65535) ∧ (0 ≤ a.fl ∧ a.fl ≤ 7)) (h4 : sthE a = 0) : a.Bd := by
  have g1 := tys_bd h1
  have g2 := nmB_len h2
  unfold sthE at h4
  split at h4
  · obtain ⟨q1, q2, q3, q4, q5, q6⟩ := rsdE_0 h4
    have : lenW a.rs = 0 := by rw [q1]; rfl
    exact ⟨hW.nm, hW.va, by omega, by omega, by rw [q1]; simp, by omega, by omega, by omega, by omega, by omega, by omega, by omega, by omega⟩
  · obtain ⟨q1, q2, q3, q4, q5, q6, q7, q8, q9⟩ := othE_0 h4
    obtain ⟨c1, c2, c3⟩ := chk_bd q4
    exact ⟨hW.nm, hW.va, by omega, by rw [q2]; simp, by omega, by omega, by omega, by omega, by omega, by omega, by omega, by omega, by omega⟩
theorem checkA_v (a : Att) (hW : a.W) : EV G (Tb (bs bb)) 34 [a.v] [] = some (vi (errA a), []) := by
  refine EV_run rfl ?_
  have q1 := isType_v (G := G) (bb := bb) a.ty
  have q2 := nameErr_v (G := G) (bb := bb) a.nm hW.nm (by have := hW.nl; omega)
  unfold errA
  by_cases c1 : a.ty ∈ tys
  · rw [if_neg (fun h => h c1)]
    rw [decide_eq_true c1] at q1
    cases c2 : nmB a.nm with
    | false =>
      rw [c2] at q2
      rw [if_pos rfl]
      by_cases d1 : 0 ≤ a.id ∧ a.id ≤ 65535
      · simp (disch := omega) only [go_sem, Nat.reduceAdd, Nat.reduceSub, Nat.reduceMul, Nat.reduceLeDiff, Nat.reduceEqDiff, h34c, q1, q2, unless8_u, un_t, un_f, firstE_0, firstE_n, firstE_nil, within8_v, first8_3, eq_true d1]
      · simp (disch := omega) only [go_sem, Nat.reduceAdd, Nat.reduceSub, Nat.reduceMul, Nat.reduceLeDiff, Nat.reduceEqDiff, h34c, q1, q2, unless8_u, un_t, un_f, firstE_0, firstE_n, firstE_nil, within8_v, first8_3, d1]
    | true =>
      rw [c2] at q2
      rw [if_neg (by decide)]
      by_cases d1 : 0 ≤ a.id ∧ a.id ≤ 65535
      · by_cases d2 : 0 ≤ a.fl ∧ a.fl ≤ 7
        · rw [if_neg (fun h => h ⟨d1, d2⟩)]
          have hbd := fun h => Att.bd hW c1 c2 ⟨d1, d2⟩ h
          have q5 (h) := encoded_v (G := G) (bb := bb) a (hbd h)
          have q6 (h) := encB_len a (hbd h)
          cases c3 : a.res with
          | true =>
            have q4 := rsdErr_v (G := G) (bb := bb) a
            simp only [sthE, c3, if_true] at q5 q6 ⊢
            simp only [Att.v, Att.c, c3] at q4 q5
            by_cases c4 : rsdE a = 0
            · have e6 : ((szN a : Int) ≤ 440) = (szN a ≤ 440) := by apply propext; omega
              by_cases c5 : szN a ≤ 440
              · rw [if_neg (fun h => h c4), if_neg (by omega)]
                simp (disch := omega) only [go_sem, Nat.reduceAdd, Nat.reduceSub, Nat.reduceMul, Nat.reduceLeDiff, Nat.reduceEqDiff, h34c, q1, q2, unless8_u, un_t, un_f, firstE_0, firstE_n, firstE_nil, within8_v, first8_3, eq_true d1, eq_true d2, q4, c4, q5 c4, q6 c4, c3, eq_true c5, e6]
              · rw [if_neg (fun h => h c4), if_pos (by omega)]
                simp (disch := omega) only [go_sem, Nat.reduceAdd, Nat.reduceSub, Nat.reduceMul, Nat.reduceLeDiff, Nat.reduceEqDiff, h34c, q1, q2, unless8_u, un_t, un_f, firstE_0, firstE_n, firstE_nil, within8_v, first8_3, eq_true d1, eq_true d2, q4, c4, q5 c4, q6 c4, c3, c5, e6]
            · rw [if_pos c4]
              simp (disch := omega) only [go_sem, Nat.reduceAdd, Nat.reduceSub, Nat.reduceMul, Nat.reduceLeDiff, Nat.reduceEqDiff, h34c, q1, q2, unless8_u, un_t, un_f, firstE_0, firstE_n, firstE_nil, within8_v, first8_3, eq_true d1, eq_true d2, q4, c4, c3]
          | false =>
            have q4 := othErr_v (G := G) (bb := bb) a hW c1
            simp only [sthE, c3, if_false, Bool.false_eq_true] at q5 q6 ⊢
            simp only [Att.v, Att.c, c3] at q4 q5
            by_cases c4 : othE a = 0
            · have e6 : ((szN a : Int) ≤ 440) = (szN a ≤ 440) := by apply propext; omega
              by_cases c5 : szN a ≤ 440
              · rw [if_neg (fun h => h c4), if_neg (by omega)]
                simp (disch := omega) only [go_sem, Nat.reduceAdd, Nat.reduceSub, Nat.reduceMul, Nat.reduceLeDiff, Nat.reduceEqDiff, h34c, q1, q2, unless8_u, un_t, un_f, firstE_0, firstE_n, firstE_nil, within8_v, first8_3, eq_true d1, eq_true d2, q4, c4, q5 c4, q6 c4, c3, eq_true c5, e6]
              · rw [if_neg (fun h => h c4), if_pos (by omega)]
                simp (disch := omega) only [go_sem, Nat.reduceAdd, Nat.reduceSub, Nat.reduceMul, Nat.reduceLeDiff, Nat.reduceEqDiff, h34c, q1, q2, unless8_u, un_t, un_f, firstE_0, firstE_n, firstE_nil, within8_v, first8_3, eq_true d1, eq_true d2, q4, c4, q5 c4, q6 c4, c3, c5, e6]
            · rw [if_pos c4]
              simp (disch := omega) only [go_sem, Nat.reduceAdd, Nat.reduceSub, Nat.reduceMul, Nat.reduceLeDiff, Nat.reduceEqDiff, h34c, q1, q2, unless8_u, un_t, un_f, firstE_0, firstE_n, firstE_nil, within8_v, first8_3, eq_true d1, eq_true d2, q4, c4, c3]
        · rw [if_pos (fun h => d2 h.2)]
          simp (disch := omega) only [go_sem, Nat.reduceAdd, Nat.reduceSub, Nat.reduceMul, Nat.reduceLeDiff, Nat.reduceEqDiff, h34c, q1, q2, unless8_u, un_t, un_f, firstE_0, firstE_n, firstE_nil, within8_v, first8_3, eq_true d1, d2]
      · rw [if_pos (fun h => d1 h.1)]
        simp (disch := omega) only [go_sem, Nat.reduceAdd, Nat.reduceSub, Nat.reduceMul, Nat.reduceLeDiff, Nat.reduceEqDiff, h34c, q1, q2, unless8_u, un_t, un_f, firstE_0, firstE_n, firstE_nil, within8_v, first8_3, d1]
  · rw [if_pos c1]
    rw [decide_eq_false c1] at q1
    by_cases d1 : 0 ≤ a.id ∧ a.id ≤ 65535
    · simp (disch := omega) only [go_sem, Nat.reduceAdd, Nat.reduceSub, Nat.reduceMul, Nat.reduceLeDiff, Nat.reduceEqDiff, h34c, q1, q2, unless8_u, un_t, un_f, firstE_0, firstE_n, firstE_nil, within8_v, first8_3, eq_true d1]
    · simp (disch := omega) only [go_sem, Nat.reduceAdd, Nat.reduceSub, Nat.reduceMul, Nat.reduceLeDiff, Nat.reduceEqDiff, h34c, q1, q2, unless8_u, un_t, un_f, firstE_0, firstE_n, firstE_nil, within8_v, first8_3, d1]
end
section
set_option maxRecDepth 4000
set_option linter.unusedSimpArgs false
set_option linter.unusedVariables false
variable {G : Glob} {bb : Bool}
theorem lit11 (call : CallT) (n : Int) : stZ call G ⟨[vi n, .junk, vb false, .junk, .junk, .junk], []⟩ [Oo 4 (.mov (.t 0)), Oo 5 (.call 113 [(.t 3), (.t 4)]), Oo 2 (.mov (.t 5))] (some 3) (.bslc 1 11 [Zi 0] [(0, (Ki 16)), (1, (Ki 32)), (2, (Ki 48)), (3, (Ki 64)), (4, (Ki 96)), (5, (Ki 112)), (6, (Ki 128)), (7, (Ki 144)), (8, (Ki 160)), (9, (Ki 176)), (10, (Ki 192))]) =
    some ⟨[vi n, .junk, vb false, vl (el tys), .junk, .junk], []⟩ := rfl
theorem isTypeR_v (n : Int) : EV G (Tb (bs bb)) 49 [vi n] [] = some (vb (decide (n ∈ tys)), []) := by
  refine EV_run rfl ?_
  have q := has_v (G := G) (B := bs bb) tys n (by simp [tys])
  simp (disch := omega) only [go_sem, Nat.reduceAdd, Nat.reduceSub, Nat.reduceMul, Nat.reduceLeDiff, Nat.reduceEqDiff, h49c, ↓lit11, q]
theorem residentR_v (n : Int) : EV G (Tb (bs bb)) 66 [vi n] [] = some (vb (decide (n ∈ rtys)), []) := by
  refine EV_run rfl ?_
  have q := has_v (G := G) (B := bs bb) rtys n (by simp [rtys])
  have e : el rtys = [[ci 16], [ci 48], [ci 96], [ci 112], [ci 144]] := rfl
  rw [e] at q
  simp (disch := omega) only [go_sem, Nat.reduceAdd, Nat.reduceSub, Nat.reduceMul, Nat.reduceLeDiff, Nat.reduceEqDiff, h66c, q]
theorem lenP (l : List Run) : ((l.length : Int) > 0) = (l ≠ []) := len0 l
theorem rsdErrR_v (a : Att) : EV G (Tb (bs bb)) 65 [a.v] [] = some (vi (rsdE a), []) := by
  refine EV_run rfl ?_
  unfold rsdE
  by_cases c1 : a.rs = []
  · have c1' : ¬ (a.rs ≠ []) := fun h => h c1
    by_cases c2 : a.fi = 0
    · by_cases c3 : a.al = 0
      · by_cases c4 : a.sz = 0
        · by_cases c5 : a.vd = 0
          · rw [if_pos ⟨c1, c2, c3, c4, c5⟩]
            have e4 : ((a.va.length : Int) > 400) = (a.va.length > 400) := by apply propext; omega
            by_cases c6 : a.va.length > 400
            · rw [if_pos c6]
              simp (disch := omega) only [go_sem, Nat.reduceAdd, Nat.reduceSub, Nat.reduceMul, Nat.reduceLeDiff, Nat.reduceEqDiff, h65c, List.length_map, lenP, c1', c2, c3, c4, c5, e4, eq_true c6]
            · rw [if_neg c6]
              simp (disch := omega) only [go_sem, Nat.reduceAdd, Nat.reduceSub, Nat.reduceMul, Nat.reduceLeDiff, Nat.reduceEqDiff, h65c, List.length_map, lenP, c1', c2, c3, c4, c5, e4, c6]
          · rw [if_neg (fun h => c5 h.2.2.2.2)]
            simp (disch := omega) only [go_sem, Nat.reduceAdd, Nat.reduceSub, Nat.reduceMul, Nat.reduceLeDiff, Nat.reduceEqDiff, h65c, List.length_map, lenP, c1', c2, c3, c4, c5]
        · rw [if_neg (fun h => c4 h.2.2.2.1)]
          simp (disch := omega) only [go_sem, Nat.reduceAdd, Nat.reduceSub, Nat.reduceMul, Nat.reduceLeDiff, Nat.reduceEqDiff, h65c, List.length_map, lenP, c1', c2, c3, c4]
      · rw [if_neg (fun h => c3 h.2.2.1)]
        simp (disch := omega) only [go_sem, Nat.reduceAdd, Nat.reduceSub, Nat.reduceMul, Nat.reduceLeDiff, Nat.reduceEqDiff, h65c, List.length_map, lenP, c1', c2, c3]
    · rw [if_neg (fun h => c2 h.2.1)]
      simp (disch := omega) only [go_sem, Nat.reduceAdd, Nat.reduceSub, Nat.reduceMul, Nat.reduceLeDiff, Nat.reduceEqDiff, h65c, List.length_map, lenP, c1', c2]
  · rw [if_neg (fun h => c1 h.1)]
    have c1' : (a.rs ≠ []) = True := eq_true c1
    simp (disch := omega) only [go_sem, Nat.reduceAdd, Nat.reduceSub, Nat.reduceMul, Nat.reduceLeDiff, Nat.reduceEqDiff, h65c, List.length_map, lenP, c1']
set_option maxHeartbeats 2000000 in
theorem othErrR_v (a : Att) (hW : a.W) : EV G (Tb (bs bb)) 64 [a.v] [] = some (vi (othE a), []) := by
  refine EV_run rfl ?_
  have q0 := residentR_v (G := G) (bb := bb) a.ty
  have ev := str_inj hW.va byts_nil
  have q1 := err_r (G := G) (B := bs bb) a.rs
  have q2 := length_r (G := G) (B := bs bb) a.rs (by have := hW.rl; omega)
  unfold othE
  by_cases c1 : a.ty ∈ rtys
  · rw [if_pos c1]
    rw [decide_eq_true c1] at q0
    simp (disch := omega) only [go_sem, Nat.reduceAdd, Nat.reduceSub, Nat.reduceMul, Nat.reduceLeDiff, Nat.reduceEqDiff, h64c, q0]
  · rw [if_neg c1]
    rw [decide_eq_false c1] at q0
    by_cases c2 : a.va = []
    · rw [if_neg (by simpa using c2)]
      replace c2 := eq_true c2
      by_cases c3 : 0 ≤ a.fi ∧ a.fi ≤ 4096
      · rw [if_neg (fun h => h c3)]
        have c3' := eq_true c3
        by_cases c4 : (chk a.rs).2 = 0
        · rw [if_neg (fun h => h c4)]
          obtain ⟨g1, g2, g3⟩ := chk_bd c4
          by_cases c5 : a.fi > 0 ∧ a.rs = []
          · rw [if_pos c5]
            have d1 := c5.1
            simp (disch := omega) only [go_sem, Nat.reduceAdd, Nat.reduceSub, Nat.reduceMul, Nat.reduceLeDiff, Nat.reduceEqDiff, h64c, q0, str_nil, ev, c2, within_r, c3', q1, c4, eq_true d1, List.length_map, rs0, eq_true c5.2]
          · rw [if_neg c5]
            by_cases c6 : a.fi + lenW a.rs > 4096
            · rw [if_pos c6]
              by_cases d1 : a.fi > 0
              · have d2 : ¬ a.rs = [] := fun h => c5 ⟨d1, h⟩
                simp (disch := omega) only [go_sem, Nat.reduceAdd, Nat.reduceSub, Nat.reduceMul, Nat.reduceLeDiff, Nat.reduceEqDiff, h64c, q0, str_nil, ev, c2, within_r, c3', q1, c4, eq_true d1, List.length_map, rs0, d2, q2, eq_true c6]
              · simp (disch := omega) only [go_sem, Nat.reduceAdd, Nat.reduceSub, Nat.reduceMul, Nat.reduceLeDiff, Nat.reduceEqDiff, h64c, q0, str_nil, ev, c2, within_r, c3', q1, c4, d1, q2, eq_true c6]
            · rw [if_neg c6]
              by_cases d1 : a.fi > 0
              · have d2 : ¬ a.rs = [] := fun h => c5 ⟨d1, h⟩
                by_cases c7 : a.al = 0
                · by_cases c8 : a.sz = 0
                  · by_cases c9 : a.vd = 0
                    · rw [if_neg (fun h => by obtain ⟨_, h⟩ := h; omega), if_neg (fun h => h (by omega)), if_neg (by omega)]
                      have d3 := eq_true (show 0 ≤ a.al ∧ a.al ≤ 1048576 by omega)
                      have d4 := eq_true (show 0 ≤ a.sz ∧ a.sz ≤ 1048576 by omega)
                      have d5 := eq_true (show 0 ≤ a.vd ∧ a.vd ≤ 1048576 by omega)
                      have d6 : ¬ a.vd > a.sz := by omega
                      simp (disch := omega) only [go_sem, Nat.reduceAdd, Nat.reduceSub, Nat.reduceMul, Nat.reduceLeDiff, Nat.reduceEqDiff, h64c, q0, str_nil, ev, c2, within_r, c3', q1, c4, eq_true d1, List.length_map, rs0, d2, q2, c6, eq_true c7, eq_true c8, eq_true c9, d3, d4, d5, d6]
                    · rw [if_pos ⟨d1, .inr (.inr c9)⟩]
                      simp (disch := omega) only [go_sem, Nat.reduceAdd, Nat.reduceSub, Nat.reduceMul, Nat.reduceLeDiff, Nat.reduceEqDiff, h64c, q0, str_nil, ev, c2, within_r, c3', q1, c4, eq_true d1, List.length_map, rs0, d2, q2, c6, eq_true c7, eq_true c8, c9]
                  · rw [if_pos ⟨d1, .inr (.inl c8)⟩]
                    simp (disch := omega) only [go_sem, Nat.reduceAdd, Nat.reduceSub, Nat.reduceMul, Nat.reduceLeDiff, Nat.reduceEqDiff, h64c, q0, str_nil, ev, c2, within_r, c3', q1, c4, eq_true d1, List.length_map, rs0, d2, q2, c6, eq_true c7, c8]
                · rw [if_pos ⟨d1, .inl c7⟩]
                  simp (disch := omega) only [go_sem, Nat.reduceAdd, Nat.reduceSub, Nat.reduceMul, Nat.reduceLeDiff, Nat.reduceEqDiff, h64c, q0, str_nil, ev, c2, within_r, c3', q1, c4, eq_true d1, List.length_map, rs0, d2, q2, c6, c7]
              · rw [if_neg (fun h => d1 h.1)]
                by_cases d3 : 0 ≤ a.al ∧ a.al ≤ 1048576
                · by_cases d4 : 0 ≤ a.sz ∧ a.sz ≤ 1048576
                  · by_cases d5 : 0 ≤ a.vd ∧ a.vd ≤ 1048576
                    · rw [if_neg (fun h => h ⟨d3, d4, d5⟩)]
                      by_cases d6 : a.vd > a.sz
                      · rw [if_pos d6]
                        simp (disch := omega) only [go_sem, Nat.reduceAdd, Nat.reduceSub, Nat.reduceMul, Nat.reduceLeDiff, Nat.reduceEqDiff, h64c, q0, str_nil, ev, c2, within_r, c3', q1, c4, d1, q2, c6, eq_true d3, eq_true d4, eq_true d5, eq_true d6]
                      · rw [if_neg d6]
                        simp (disch := omega) only [go_sem, Nat.reduceAdd, Nat.reduceSub, Nat.reduceMul, Nat.reduceLeDiff, Nat.reduceEqDiff, h64c, q0, str_nil, ev, c2, within_r, c3', q1, c4, d1, q2, c6, eq_true d3, eq_true d4, eq_true d5, d6]
                    · rw [if_pos (fun h => d5 h.2.2)]
                      simp (disch := omega) only [go_sem, Nat.reduceAdd, Nat.reduceSub, Nat.reduceMul, Nat.reduceLeDiff, Nat.reduceEqDiff, h64c, q0, str_nil, ev, c2, within_r, c3', q1, c4, d1, q2, c6, eq_true d3, eq_true d4, d5]
                  · rw [if_pos (fun h => d4 h.2.1)]
                    simp (disch := omega) only [go_sem, Nat.reduceAdd, Nat.reduceSub, Nat.reduceMul, Nat.reduceLeDiff, Nat.reduceEqDiff, h64c, q0, str_nil, ev, c2, within_r, c3', q1, c4, d1, q2, c6, eq_true d3, d4]
                · rw [if_pos (fun h => d3 h.1)]
                  simp (disch := omega) only [go_sem, Nat.reduceAdd, Nat.reduceSub, Nat.reduceMul, Nat.reduceLeDiff, Nat.reduceEqDiff, h64c, q0, str_nil, ev, c2, within_r, c3', q1, c4, d1, q2, c6, d3]
        · rw [if_pos c4]
          simp (disch := omega) only [go_sem, Nat.reduceAdd, Nat.reduceSub, Nat.reduceMul, Nat.reduceLeDiff, Nat.reduceEqDiff, h64c, q0, str_nil, ev, c2, within_r, c3', q1, c4]
      · rw [if_pos c3]
        simp (disch := omega) only [go_sem, Nat.reduceAdd, Nat.reduceSub, Nat.reduceMul, Nat.reduceLeDiff, Nat.reduceEqDiff, h64c, q0, str_nil, ev, c2, within_r, c3]
    · rw [if_pos c2]
      simp (disch := omega) only [go_sem, Nat.reduceAdd, Nat.reduceSub, Nat.reduceMul, Nat.reduceLeDiff, Nat.reduceEqDiff, h64c, q0, str_nil, ev, c2]
theorem floor_v (n m : Int) (hm : 0 < m ∧ m ≤ 4611686018427387904) (hn : -4611686018427387904 ≤ n ∧ n ≤ 4611686018427387904) : EV G (Tb (bs bb)) 122 [vi n, vi m] [] = some (vi (n / m), []) := by
  refine EV_run rfl ?_
  have h1 : n.tdiv m = n / m + (if n.tmod m < 0 then 1 else 0) := by
    have e1 := Int.tmod_add_mul_tdiv n m
    have e2 := Int.emod_add_mul_ediv n m
    have e3 := modT n m hm.1
    have e4 : m * (n.tdiv m - n / m) = n % m - n.tmod m := by rw [Int.mul_sub]; omega
    split at e3
    · rename_i hc
      rw [if_pos hc]
      have : m * (n.tdiv m - n / m) = m * 1 := by omega
      have := Int.eq_of_mul_eq_mul_left (by omega) this
      omega
    · rename_i hc
      rw [if_neg hc]
      have : m * (n.tdiv m - n / m) = m * 0 := by omega
      have := Int.eq_of_mul_eq_mul_left (by omega) this
      omega
  have h2 : -4611686018427387904 ≤ n / m ∧ n / m ≤ 4611686018427387904 := by
    constructor
    · by_cases h0 : 0 ≤ n
      · have := Int.ediv_nonneg h0 (show 0 ≤ m by omega); omega
      · have h3 : n * m ≤ n := by
          have := Int.mul_nonpos_of_nonpos_of_nonneg (show n ≤ 0 by omega) (show 0 ≤ m - 1 by omega)
          rw [Int.mul_sub, Int.mul_one] at this
          omega
        have := Int.le_ediv_of_mul_le hm.1 h3
        omega
    · by_cases h0 : 0 ≤ n
      · have := Int.ediv_le_self m h0; omega
      · have := Int.ediv_neg_of_neg_of_pos (by omega : n < 0) hm.1; omega
  by_cases c : n.tmod m < 0
  · rw [if_pos c] at h1
    have h3 : n.tdiv m - 1 = n / m := by omega
    simp (disch := omega) only [go_sem, Nat.reduceAdd, Nat.reduceSub, Nat.reduceMul, Nat.reduceLeDiff, Nat.reduceEqDiff, h122c, h1, c]
    simp
  · rw [if_neg c] at h1
    have h3 : n.tdiv m = n / m := by omega
    simp (disch := omega) only [go_sem, Nat.reduceAdd, Nat.reduceSub, Nat.reduceMul, Nat.reduceLeDiff, Nat.reduceEqDiff, h122c, h3, c]
theorem ceil_v (n m : Int) (hm : 0 < m ∧ m ≤ 4611686018427387904) (hn : -4611686018427387904 ≤ n ∧ n ≤ 4611686018427387904) (hq : -4611686018427387904 ≤ -n / m ∧ -n / m ≤ 4611686018427387904) : EV G (Tb (bs bb)) 70 [vi n, vi m] [] = some (vi (-(-n / m)), []) := by
  refine EV_run rfl ?_
  have q := floor_v (G := G) (bb := bb) (-n) m hm (by omega)
  rw [show -n = 0 - n by omega] at q hq ⊢
  have e : 0 - (0 - n) / m = -((0 - n) / m) := by omega
  simp (disch := omega) only [go_sem, Nat.reduceAdd, Nat.reduceSub, Nat.reduceMul, Nat.reduceLeDiff, Nat.reduceEqDiff, h70c, q, e]
end
section
set_option maxRecDepth 4000
set_option linter.unusedSimpArgs false
set_option linter.unusedVariables false
variable {G : Glob} {bb : Bool}
theorem bit_v (b : Bool) : EV G (Tb (bs bb)) 98 [vb b] [] = some (vi (if b = true then 1 else 0), []) := by
  refine EV_run rfl ?_
  cases b
  all_goals simp (disch := omega) only [go_sem, Nat.reduceAdd, Nat.reduceSub, Nat.reduceMul, Nat.reduceLeDiff, Nat.reduceEqDiff, h98c]
  all_goals rfl
theorem ceil8_v (n : Nat) (h : n ≤ 1000000000) : EV G (Tb (bs bb)) 70 [vi n, vi 8] [] = some (vi (((n + 7) / 8 : Nat) : Int), []) := by
  have := ceil_v (G := G) (bb := bb) n 8 (by omega) (by omega) (by omega)
  rwa [show -(-(n : Int) / 8) = (((n + 7) / 8 : Nat) : Int) by omega] at this
theorem little1 (n : Int) (hn : 0 ≤ n ∧ n ≤ 9223372036854775807) : EV G (Tb (bs bb)) 97 [vi n, vi 1] [] = some (sv (sgK n 1), []) := little_v n 1 hn (by omega)
theorem little2 (n : Int) (hn : 0 ≤ n ∧ n ≤ 9223372036854775807) : EV G (Tb (bs bb)) 97 [vi n, vi 2] [] = some (sv (sgK n 2), []) := little_v n 2 hn (by omega)
theorem little4 (n : Int) (hn : 0 ≤ n ∧ n ≤ 9223372036854775807) : EV G (Tb (bs bb)) 97 [vi n, vi 4] [] = some (sv (sgK n 4), []) := little_v n 4 hn (by omega)
/-- bytes 0 up to a multiple of 8 -/
def fil8 (l : List Int) : List Int := l ++ List.replicate ((l.length + 7) / 8 * 8 - l.length) 0
theorem zerosN_v (k : Nat) (h : k ≤ 100000) : EV G (Tb (bs bb)) 100 [vi k] [] = some (sv (List.replicate k 0), []) := by
  have := zeros_v (G := G) (B := bs bb) k (by omega)
  rwa [Int.toNat_natCast] at this
theorem filled_v (l : List Int) (h : l.length ≤ 10000) : EV G (Tb (bs bb)) 101 [sv l] [] = some (sv (fil8 l), []) := by
  refine EV_run rfl ?_
  have q1 := ceil8_v (G := G) (bb := bb) l.length (by omega)
  have q2 := zerosN_v (G := G) (bb := bb) ((l.length + 7) / 8 * 8 - l.length) (by omega)
  have e : (8 : Int) * (((l.length + 7) / 8 : Nat) : Int) - (l.length : Int) = (((l.length + 7) / 8 * 8 - l.length : Nat) : Int) := by omega
  simp (disch := first | omega | (simp only [List.length_append, List.length_cons, List.length_nil, List.length_map, sgK_len, List.length_replicate] <;> omega)) only [go_sem, Nat.reduceAdd, Nat.reduceSub, Nat.reduceMul, Nat.reduceLeDiff, Nat.reduceEqDiff, h101c, q1, e, q2, List.length_replicate, fil8]
/-- the head of an attribute, behind its type and its length -/
def rf1 (a : Att) : List Int := sgK (if a.res = true then 0 else 1) 1 ++ sgK a.nm.length 1 ++ sgK (hdN a) 2 ++ sgK a.fl 2 ++ sgK a.id 2
def rf2 (a : Att) : List Int := if a.res = true then rf1 a ++ sgK a.va.length 4 ++ sgK (atN a) 4
  else rf1 a ++ sgK a.fi 4 ++ sgK ((a.fi + lenW a.rs - 1) % 4294967296) 4 ++ sgK (atN a) 2 ++ List.replicate 2 0 ++ sgK a.al 4 ++ sgK a.sz 4 ++ sgK a.vd 4
def rfb (a : Att) : List Int := if a.res = true then a.va else (encL a.rs).1 ++ [0]
def rf3 (a : Att) : List Int := fil8 (rf2 a ++ a.nm ++ List.replicate (atN a - hdN a - a.nm.length) 0 ++ rfb a)
def rfE (a : Att) : List Int := sgK a.ty 4 ++ sgK (szN a) 4 ++ rf3 a
/-- an attribute with no error but its length -/
structure Att.Ok (a : Att) : Prop where
  w : a.W
  ty : a.ty ∈ tys
  nm : nmB a.nm = true
  rg : (0 ≤ a.id ∧ a.id ≤ 65535) ∧ (0 ≤ a.fl ∧ a.fl ≤ 7)
  e : sthE a = 0
theorem rfb_eq {a : Att} (h : a.Ok) : rfb a = bdy a := by
  unfold rfb bdy
  by_cases hr : a.res = true
  · rw [if_pos hr, if_pos hr]
  · rw [if_neg hr, if_neg hr]
    have h4 := h.e
    unfold sthE at h4
    rw [if_neg hr] at h4
    obtain ⟨_, _, _, q4, _⟩ := othE_0 h4
    unfold encV
    rw [if_neg (by rw [errs1]; simpa using q4)]
theorem rf2_len (a : Att) : (rf2 a).length + 8 = hdN a := by
  unfold rf2 rf1 hdN
  split <;> simp only [List.length_append, sgK_len, List.length_replicate]
set_option maxHeartbeats 4000000 in
theorem encR_t (a : Att) (h : a.Ok) (hr : a.res = true) : EV G (Tb (bs bb)) 39 [a.v] [] = some (sv (rfE a), []) := by
  refine EV_run rfl ?_
  obtain ⟨b1, b2, b3, b4, b5, b6, b7, b8, b9, b10, b11, b12, b13⟩ := Att.bd h.w h.ty h.nm h.rg h.e
  have g1 := tys_bd h.ty
  have g2 := nmB_len h.nm
  obtain ⟨g3, g4⟩ := h.rg
  have h4 := h.e
  unfold sthE at h4
  rw [if_pos hr] at h4
  obtain ⟨r1, r2, r3, r4, r5, r6⟩ := rsdE_0 h4
  have eh : hdN a = 24 := by simp [hdN, hr]
  have hA : 24 + a.nm.length ≤ atN a ∧ atN a ≤ 2000 := by simp only [atN, eh]; omega
  have q1 := ceil8_v (G := G) (bb := bb) (24 + a.nm.length) (by omega)
  have eA : (8 : Int) * (((24 + a.nm.length + 7) / 8 : Nat) : Int) = ((atN a : Nat) : Int) := by simp only [atN, eh]; omega
  rw [Int.natCast_add, show ((24 : Nat) : Int) = 24 from rfl] at q1
  have hs : szN a ≤ 4000 ∧ 8 ≤ szN a ∧ szN a % 8 = 0 := by
    have : bdy a = a.va := by simp [bdy, hr]
    simp only [szN, this]; omega
  have hz : (rf3 a).length = szN a - 8 := by
    have h2 := rf2_len a
    rw [rf3, fil8, rfb_eq h]
    simp only [List.length_append, List.length_replicate]
    simp only [szN]
    have : atN a % 8 = 0 := by unfold atN; omega
    omega
  have q2 := zerosN_v (G := G) (bb := bb) (atN a - 24 - a.nm.length) (by omega)
  have e2 : ((atN a : Nat) : Int) - 24 - (a.nm.length : Int) = ((atN a - 24 - a.nm.length : Nat) : Int) := by omega
  have f1 : rf2 a = rf1 a ++ sgK a.va.length 4 ++ sgK (atN a) 4 := by rw [rf2, if_pos hr]
  have l1 : (rf1 a).length = 8 := by simp only [rf1, List.length_append, sgK_len]
  have f2 : rf3 a = fil8 (rf1 a ++ sgK a.va.length 4 ++ sgK (atN a) 4 ++ a.nm ++ List.replicate (atN a - 24 - a.nm.length) 0 ++ a.va) := by rw [rf3, f1, eh, rfb, if_pos hr]
  have f0 : rf1 a = sgK 0 1 ++ sgK a.nm.length 1 ++ sgK 24 2 ++ sgK a.fl 2 ++ sgK a.id 2 := by rw [rf1, if_pos hr, eh]; rfl
  have q3 := filled_v (G := G) (bb := bb) (rf1 a ++ sgK a.va.length 4 ++ sgK (atN a) 4 ++ a.nm ++ List.replicate (atN a - 24 - a.nm.length) 0 ++ a.va) (by simp only [List.length_append, sgK_len, List.length_replicate]; omega)
  rw [← f2] at q3
  have q4 := ceil8_v (G := G) (bb := bb) ((rf3 a).length + 8) (by omega)
  rw [Int.natCast_add, show ((8 : Nat) : Int) = 8 from rfl] at q4
  have e4 : (8 : Int) * ((((rf3 a).length + 8 + 7) / 8 : Nat) : Int) = ((szN a : Nat) : Int) := by omega
  rw [f0] at q3
  unfold rfE
  generalize rf3 a = R at *
  generalize atN a = A at *
  generalize szN a = N at *
  simp (disch := first | omega | (simp only [List.length_append, List.length_cons, List.length_nil, List.length_map, sgK_len, List.length_replicate] <;> omega)) only [go_sem, Nat.reduceAdd, Nat.reduceSub, Nat.reduceMul, Nat.reduceLeDiff, Nat.reduceEqDiff, h39c, hr, str_nil, bit_v, q1, eA, little1, little2, little4, q2, e2, q3, q4, e4, List.append_nil, List.length_replicate]
theorem zeros2_v : EV G (Tb (bs bb)) 100 [vi 2] [] = some (sv [0, 0], []) := zeros_v 2 (by omega)
theorem encL_len {l : List Run} (h : (chk l).2 = 0) : (encL l).1.length ≤ 320 := by
  obtain ⟨g1, g2, g3⟩ := encK_ok l (fun r hr' => (runs_in h r hr').1) l.length (Nat.le_refl _)
  rw [encK_all] at g1
  have := chk_len h
  omega
set_option maxHeartbeats 4000000 in
theorem encR_f (a : Att) (h : a.Ok) (hr : a.res = false) : EV G (Tb (bs bb)) 39 [a.v] [] = some (sv (rfE a), []) := by
  refine EV_run rfl ?_
  obtain ⟨b1, b2, b3, b4, b5, b6, b7, b8, b9, b10, b11, b12, b13⟩ := Att.bd h.w h.ty h.nm h.rg h.e
  have hr' : ¬ a.res = true := by rw [hr]; decide
  have g1 := tys_bd h.ty
  have g2 := nmB_len h.nm
  obtain ⟨g3, g4⟩ := h.rg
  have h4 := h.e
  unfold sthE at h4
  rw [if_neg hr'] at h4
  obtain ⟨r1, r2, r3, r4, r5, r6, r7, r8, r9⟩ := othE_0 h4
  obtain ⟨c1, c2, c3⟩ := chk_bd r4
  have eh : hdN a = 40 := by simp [hdN, hr]
  have eb := rfb_eq h
  have ef : rfb a = (encL a.rs).1 ++ [0] := by rw [rfb, if_neg hr']
  have hl := encL_len r4
  have hbl : (bdy a).length = (encL a.rs).1.length + 1 := by rw [← eb, ef]; simp
  have hA : 40 + a.nm.length ≤ atN a ∧ atN a ≤ 2000 := by simp only [atN, eh]; omega
  have q1 := ceil8_v (G := G) (bb := bb) (40 + a.nm.length) (by omega)
  have eA : (8 : Int) * (((40 + a.nm.length + 7) / 8 : Nat) : Int) = ((atN a : Nat) : Int) := by simp only [atN, eh]; omega
  rw [Int.natCast_add, show ((40 : Nat) : Int) = 40 from rfl] at q1
  have hs : szN a ≤ 4000 ∧ 8 ≤ szN a ∧ szN a % 8 = 0 := by
    simp only [szN]; omega
  have hz : (rf3 a).length = szN a - 8 := by
    have h2 := rf2_len a
    rw [rf3, fil8, rfb_eq h]
    simp only [List.length_append, List.length_replicate]
    simp only [szN]
    have : atN a % 8 = 0 := by unfold atN; omega
    omega
  have q2 := zerosN_v (G := G) (bb := bb) (atN a - 40 - a.nm.length) (by omega)
  have e2 : ((atN a : Nat) : Int) - 40 - (a.nm.length : Int) = ((atN a - 40 - a.nm.length : Nat) : Int) := by omega
  have q5 := encodeR_v (G := G) (B := bs bb) a.rs r4
  have q6 := length_r (G := G) (B := bs bb) a.rs (by omega)
  have q7 := mod_v (G := G) (B := bs bb) (a.fi + lenW a.rs - 1) 4294967296 (by omega)
  have l1 : (rf1 a).length = 8 := by simp only [rf1, List.length_append, sgK_len]
  have f0 : rf1 a = sgK 1 1 ++ sgK a.nm.length 1 ++ sgK 40 2 ++ sgK a.fl 2 ++ sgK a.id 2 := by rw [rf1, if_neg hr', eh]; rfl
  have f1 : rf2 a = rf1 a ++ sgK a.fi 4 ++ sgK ((a.fi + lenW a.rs - 1) % 4294967296) 4 ++ sgK (atN a) 2 ++ [0, 0] ++ sgK a.al 4 ++ sgK a.sz 4 ++ sgK a.vd 4 := by rw [rf2, if_neg hr']; rfl
  have l2 := rf2_len a
  have f2 : rf3 a = fil8 (rf2 a ++ a.nm ++ List.replicate (atN a - 40 - a.nm.length) 0 ++ ((encL a.rs).1 ++ [0])) := by rw [rf3, eh, ef]
  have q3 := filled_v (G := G) (bb := bb) (rf2 a ++ a.nm ++ List.replicate (atN a - 40 - a.nm.length) 0 ++ ((encL a.rs).1 ++ [0])) (by simp only [List.length_append, List.length_replicate, List.length_singleton]; omega)
  rw [← f2] at q3
  have q4 := ceil8_v (G := G) (bb := bb) ((rf3 a).length + 8) (by omega)
  rw [Int.natCast_add, show ((8 : Nat) : Int) = 8 from rfl] at q4
  have e4 : (8 : Int) * ((((rf3 a).length + 8 + 7) / 8 : Nat) : Int) = ((szN a : Nat) : Int) := by omega
  rw [f1, f0] at q3
  unfold rfE
  generalize rf3 a = R at *
  generalize atN a = A at *
  generalize szN a = N at *
  have hm : 0 ≤ (a.fi + lenW a.rs - 1) % 4294967296 ∧ (a.fi + lenW a.rs - 1) % 4294967296 ≤ 4294967296 := by omega
  simp (disch := first | omega | (simp only [List.length_append, List.length_cons, List.length_nil, List.length_map, sgK_len, List.length_replicate] <;> omega)) only [go_sem, Nat.reduceAdd, Nat.reduceSub, Nat.reduceMul, Nat.reduceLeDiff, Nat.reduceEqDiff, h39c, hr, str_nil, bit_v, q1, eA, little1, little2, little4, zeros2_v, q2, e2, q3, q4, e4, q5, q6, q7, List.append_nil, List.length_replicate]
theorem encRef_v (a : Att) (h : a.Ok) : EV G (Tb (bs bb)) 39 [a.v] [] = some (sv (rfE a), []) := by
  cases hr : a.res with
  | true => exact encR_t a h hr
  | false => exact encR_f a h hr
theorem rfE_len (a : Att) (h : a.Ok) : (rfE a).length = szN a := by
  have h2 := rf2_len a
  have hb := rfb_eq h
  have h3 : atN a % 8 = 0 ∧ hdN a + a.nm.length ≤ atN a := by unfold atN; omega
  rw [rfE, rf3, fil8, hb]
  simp only [List.length_append, List.length_replicate, sgK_len]
  simp only [szN]
  omega
theorem errR_v (a : Att) (hW : a.W) : EV G (Tb (bs bb)) 17 [a.v] [] = some (vi (errA a), []) := by
  refine EV_run rfl ?_
  have q1 := isTypeR_v (G := G) (bb := bb) a.ty
  have q2 := isName_v (G := G) (bb := bb) a.nm hW.nm (by have := hW.nl; omega)
  have q3 := othErrR_v (G := G) (bb := bb) a hW
  have q4 := rsdErrR_v (G := G) (bb := bb) a
  unfold errA
  by_cases c1 : a.ty ∈ tys
  · rw [if_neg (fun h => h c1)]
    rw [decide_eq_true c1] at q1
    cases c2 : nmB a.nm with
    | false =>
      rw [c2] at q2
      rw [if_pos rfl]
      simp (disch := omega) only [go_sem, Nat.reduceAdd, Nat.reduceSub, Nat.reduceMul, Nat.reduceLeDiff, Nat.reduceEqDiff, h17c, q1, q2]
    | true =>
      rw [c2] at q2
      rw [if_neg (by decide)]
      by_cases d1 : 0 ≤ a.id ∧ a.id ≤ 65535
      · by_cases d2 : 0 ≤ a.fl ∧ a.fl ≤ 7
        · rw [if_neg (fun h => h ⟨d1, d2⟩)]
          have q5 (h : sthE a = 0) := encRef_v (G := G) (bb := bb) a ⟨hW, c1, c2, ⟨d1, d2⟩, h⟩
          have q6 (h : sthE a = 0) := rfE_len a ⟨hW, c1, c2, ⟨d1, d2⟩, h⟩
          have e6 : ((szN a : Int) > 440) = (szN a > 440) := by apply propext; omega
          cases c3 : a.res with
          | true =>
            simp only [sthE, c3, if_true] at q5 q6 ⊢
            simp only [Att.v, Att.c, c3] at q3 q4 q5
            by_cases c4 : rsdE a = 0
            · rw [if_neg (fun h => h c4)]
              by_cases c5 : szN a > 440
              · rw [if_pos c5]
                simp (disch := omega) only [go_sem, Nat.reduceAdd, Nat.reduceSub, Nat.reduceMul, Nat.reduceLeDiff, Nat.reduceEqDiff, h17c, q1, q2, within_r, eq_true d1, eq_true d2, q3, c3, q4, c4, q5 c4, q6 c4, e6, eq_true c5]
              · rw [if_neg c5]
                simp (disch := omega) only [go_sem, Nat.reduceAdd, Nat.reduceSub, Nat.reduceMul, Nat.reduceLeDiff, Nat.reduceEqDiff, h17c, q1, q2, within_r, eq_true d1, eq_true d2, q3, c3, q4, c4, q5 c4, q6 c4, e6, c5]
            · rw [if_pos c4]
              simp (disch := omega) only [go_sem, Nat.reduceAdd, Nat.reduceSub, Nat.reduceMul, Nat.reduceLeDiff, Nat.reduceEqDiff, h17c, q1, q2, within_r, eq_true d1, eq_true d2, q3, c3, q4, c4]
          | false =>
            simp only [sthE, c3, if_false, Bool.false_eq_true] at q5 q6 ⊢
            simp only [Att.v, Att.c, c3] at q3 q4 q5
            by_cases c4 : othE a = 0
            · rw [if_neg (fun h => h c4)]
              by_cases c5 : szN a > 440
              · rw [if_pos c5]
                simp (disch := omega) only [go_sem, Nat.reduceAdd, Nat.reduceSub, Nat.reduceMul, Nat.reduceLeDiff, Nat.reduceEqDiff, h17c, q1, q2, within_r, eq_true d1, eq_true d2, q3, c3, c4, q5 c4, q6 c4, e6, eq_true c5]
              · rw [if_neg c5]
                simp (disch := omega) only [go_sem, Nat.reduceAdd, Nat.reduceSub, Nat.reduceMul, Nat.reduceLeDiff, Nat.reduceEqDiff, h17c, q1, q2, within_r, eq_true d1, eq_true d2, q3, c3, c4, q5 c4, q6 c4, e6, c5]
            · rw [if_pos c4]
              simp (disch := omega) only [go_sem, Nat.reduceAdd, Nat.reduceSub, Nat.reduceMul, Nat.reduceLeDiff, Nat.reduceEqDiff, h17c, q1, q2, within_r, eq_true d1, eq_true d2, q3, c3, c4]
        · rw [if_pos (fun h => d2 h.2)]
          simp (disch := omega) only [go_sem, Nat.reduceAdd, Nat.reduceSub, Nat.reduceMul, Nat.reduceLeDiff, Nat.reduceEqDiff, h17c, q1, q2, within_r, eq_true d1, d2]
      · rw [if_pos (fun h => d1 h.1)]
        simp (disch := omega) only [go_sem, Nat.reduceAdd, Nat.reduceSub, Nat.reduceMul, Nat.reduceLeDiff, Nat.reduceEqDiff, h17c, q1, q2, within_r, d1]
  · rw [if_pos c1]
    rw [decide_eq_false c1] at q1
    simp (disch := omega) only [go_sem, Nat.reduceAdd, Nat.reduceSub, Nat.reduceMul, Nat.reduceLeDiff, Nat.reduceEqDiff, h17c, q1]
end
end Go.Proofs.YtmognenhkecngaaGreatDoor
