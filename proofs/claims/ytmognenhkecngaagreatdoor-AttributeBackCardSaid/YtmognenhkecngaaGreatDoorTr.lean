/- Runs are decoded of their bytes, and of no beginning of them. Conditions: none. -/
import Derived.Test.YtmognenhkecngaaGreatDoorVq
namespace Go.Proofs.YtmognenhkecngaaGreatDoor
section
set_option maxRecDepth 4000
set_option linter.unusedSimpArgs false
set_option linter.unusedVariables false
variable {G : Glob} {B : CallT}
theorem pow7_v : EV G (Tb B) 170 [vi 7] [] = some (vi 128, []) := by
  refine EV_run rfl ?_
  simp (disch := first | omega | (simp only [List.length_append, List.length_cons, List.length_nil, List.length_map, sgK_len]; omega)) only [go_sem, Nat.reduceAdd, Nat.reduceSub, Nat.reduceMul, Nat.reduceLeDiff, Nat.reduceEqDiff, h170c, Int.reduceMul, Int.reduceToNat, Int.reducePow]
theorem pow8_v : EV G (Tb B) 170 [vi 8] [] = some (vi 256, []) := by
  refine EV_run rfl ?_
  simp (disch := first | omega | (simp only [List.length_append, List.length_cons, List.length_nil, List.length_map, sgK_len]; omega)) only [go_sem, Nat.reduceAdd, Nat.reduceSub, Nat.reduceMul, Nat.reduceLeDiff, Nat.reduceEqDiff, h170c, Int.reduceMul, Int.reduceToNat, Int.reducePow]
theorem pow15_v : EV G (Tb B) 170 [vi 15] [] = some (vi 32768, []) := by
  refine EV_run rfl ?_
  simp (disch := first | omega | (simp only [List.length_append, List.length_cons, List.length_nil, List.length_map, sgK_len]; omega)) only [go_sem, Nat.reduceAdd, Nat.reduceSub, Nat.reduceMul, Nat.reduceLeDiff, Nat.reduceEqDiff, h170c, Int.reduceMul, Int.reduceToNat, Int.reducePow]
theorem pow16_v : EV G (Tb B) 170 [vi 16] [] = some (vi 65536, []) := by
  refine EV_run rfl ?_
  simp (disch := first | omega | (simp only [List.length_append, List.length_cons, List.length_nil, List.length_map, sgK_len]; omega)) only [go_sem, Nat.reduceAdd, Nat.reduceSub, Nat.reduceMul, Nat.reduceLeDiff, Nat.reduceEqDiff, h170c, Int.reduceMul, Int.reduceToNat, Int.reducePow]
theorem littleAt1_v (l : List Int) (hB : Byts l) (a : Nat) (ha : a + 1 ≤ l.length) (hl : l.length ≤ 1000000) : EV G (Tb B) 94 [sv l, vi a, vi 1] [] = some (vi (l[a]'(by omega)), []) := by
  refine EV_run rfl ?_
  have hx := hB _ (List.getElem_mem (show a < l.length by omega))
  simp (disch := first | omega | (simp only [List.length_append, List.length_cons, List.length_nil, List.length_map, sgK_len]; omega)) only [go_sem, Nat.reduceAdd, Nat.reduceSub, Nat.reduceMul, Nat.reduceLeDiff, Nat.reduceEqDiff, h94c, Int.reduceSub]
  rw [EL_loop (fun k => ⟨(sv l :: vi a :: jk 5 (vi (tb3 0 (l[a]'(by omega)) 0 k) :: vi (tb3 0 (-1) (-1) k) :: jk 16 [])), []⟩) 1 ?_ ?_]
  · simp (disch := first | omega | (simp only [List.length_append, List.length_cons, List.length_nil, List.length_map, sgK_len]; omega)) only [go_sem, Nat.reduceAdd, Nat.reduceSub, Nat.reduceMul, Nat.reduceLeDiff, Nat.reduceEqDiff, h94l0, tb3_1]
  · rfl
  · intro k hk
    have hk0 : k = 0 := by omega
    subst hk0
    simp (disch := first | omega | (simp only [List.length_append, List.length_cons, List.length_nil, List.length_map, sgK_len]; omega)) only [go_sem, Nat.reduceAdd, Nat.reduceSub, Nat.reduceMul, Nat.reduceLeDiff, Nat.reduceEqDiff, h94l0, tb3_0, tb3_1, Int.reduceMul, Int.reduceSub, List.getElem_map, Int.add_zero, Int.zero_add]
theorem littleAt2_v (l : List Int) (hB : Byts l) (a : Nat) (ha : a + 2 ≤ l.length) (hl : l.length ≤ 1000000) : EV G (Tb B) 94 [sv l, vi a, vi 2] [] = some (vi ((l[a + 1]'(by omega)) * 256 + l[a]'(by omega)), []) := by
  refine EV_run rfl ?_
  have hx := hB _ (List.getElem_mem (show a < l.length by omega))
  have hy := hB _ (List.getElem_mem (show a + 1 < l.length by omega))
  simp (disch := first | omega | (simp only [List.length_append, List.length_cons, List.length_nil, List.length_map, sgK_len]; omega)) only [go_sem, Nat.reduceAdd, Nat.reduceSub, Nat.reduceMul, Nat.reduceLeDiff, Nat.reduceEqDiff, h94c, Int.reduceSub]
  rw [EL_loop (fun k => ⟨(sv l :: vi a :: jk 5 (vi (tb3 0 (l[a + 1]'(by omega)) ((l[a + 1]'(by omega)) * 256 + l[a]'(by omega)) k) :: vi (tb3 1 0 (-1) k) :: jk 16 [])), []⟩) 2 ?_ ?_]
  · simp (disch := first | omega | (simp only [List.length_append, List.length_cons, List.length_nil, List.length_map, sgK_len]; omega)) only [go_sem, Nat.reduceAdd, Nat.reduceSub, Nat.reduceMul, Nat.reduceLeDiff, Nat.reduceEqDiff, h94l0, tb3_2]
  · rfl
  · intro k hk
    rcases (show k = 0 ∨ k = 1 by omega) with rfl | rfl
    · simp (disch := first | omega | (simp only [List.length_append, List.length_cons, List.length_nil, List.length_map, sgK_len]; omega)) only [go_sem, Nat.reduceAdd, Nat.reduceSub, Nat.reduceMul, Nat.reduceLeDiff, Nat.reduceEqDiff, h94l0, tb3_0, tb3_1, Int.reduceMul, Int.reduceSub, List.getElem_map, Int.add_zero, Int.zero_add, Int.zero_mul]
    · simp (disch := first | omega | (simp only [List.length_append, List.length_cons, List.length_nil, List.length_map, sgK_len]; omega)) only [go_sem, Nat.reduceAdd, Nat.reduceSub, Nat.reduceMul, Nat.reduceLeDiff, Nat.reduceEqDiff, h94l0, tb3_1, tb3_2, Int.reduceMul, Int.reduceSub, List.getElem_map, Int.add_zero, Int.zero_add]
theorem signedAt_v (l : List Int) (hB : Byts l) (at' a : Nat) (ha : a = 1 ∨ a = 2) (h : at' + a ≤ l.length) (hl : l.length ≤ 1000000) :
    EV G (Tb B) 142 [sv l, vi at', vi a] [] = some (.tup [.one (.dc (ci (numR (l.drop at') a).1)), .one (bC (numR (l.drop at') a).2.1)], []) := by
  refine EV_run rfl ?_
  have hx := hB _ (List.getElem_mem (show at' < l.length by omega))
  rcases ha with rfl | rfl
  · have s1 := littleAt1_v (G := G) (B := B) l hB at' h hl
    rw [List.drop_eq_getElem_cons (show at' < l.length by omega)]
    generalize l[at'] = x at *
    have hv : numR (x :: List.drop (at' + 1) l) 1 = (sval [x], decide (sz (sval [x]) = 1), List.drop (at' + 1) l) := by rw [numR, if_neg (by simp)]; rfl
    rw [hv]
    simp only [sval]
    by_cases c : 128 ≤ x
    · have s2 := signedR_v (G := G) (B := B) (x - 256) (by omega)
      have z := sz_in (x - 256)
      have q : (((sz (x - 256)).toNat : Nat) : Int) = sz (x - 256) := by omega
      simp (disch := first | omega | (simp only [List.length_append, List.length_cons, List.length_nil, List.length_map, sgK_len]; omega)) only [go_sem, Nat.reduceAdd, Nat.reduceSub, Nat.reduceMul, Nat.reduceLeDiff, Nat.reduceEqDiff, h142c, s1, s2, c, pow7_v, pow8_v, Int.reduceMul, Int.reduceSub, Int.natCast_one, bC, sgK_len, q]
    · have s2 := signedR_v (G := G) (B := B) x (by omega)
      have z := sz_in x
      have q : (((sz x).toNat : Nat) : Int) = sz x := by omega
      simp (disch := first | omega | (simp only [List.length_append, List.length_cons, List.length_nil, List.length_map, sgK_len]; omega)) only [go_sem, Nat.reduceAdd, Nat.reduceSub, Nat.reduceMul, Nat.reduceLeDiff, Nat.reduceEqDiff, h142c, s1, s2, c, pow7_v, pow8_v, Int.reduceMul, Int.reduceSub, Int.natCast_one, bC, sgK_len, q]
  · have s1 := littleAt2_v (G := G) (B := B) l hB at' h hl
    have hy := hB _ (List.getElem_mem (show at' + 1 < l.length by omega))
    rw [List.drop_eq_getElem_cons (show at' < l.length by omega), List.drop_eq_getElem_cons (show at' + 1 < l.length by omega)]
    generalize l[at'] = x at *
    generalize l[at' + 1] = y at *
    have hv : numR (x :: y :: List.drop (at' + 1 + 1) l) 2 = (sval [x, y], decide (sz (sval [x, y]) = 2), List.drop (at' + 1 + 1) l) := by rw [numR, if_neg (by simp)]; rfl
    rw [hv]
    simp only [sval]
    rw [show ((2 : Nat) : Int) = 2 from rfl]
    by_cases c : 32768 ≤ y * 256 + x
    · have s2 := signedR_v (G := G) (B := B) (y * 256 + x - 65536) (by omega)
      have z := sz_in (y * 256 + x - 65536)
      have q : (((sz (y * 256 + x - 65536)).toNat : Nat) : Int) = sz (y * 256 + x - 65536) := by omega
      simp (disch := first | omega | (simp only [List.length_append, List.length_cons, List.length_nil, List.length_map, sgK_len]; omega)) only [go_sem, Nat.reduceAdd, Nat.reduceSub, Nat.reduceMul, Nat.reduceLeDiff, Nat.reduceEqDiff, h142c, s1, s2, c, pow15_v, pow16_v, Int.reduceMul, Int.reduceSub, bC, sgK_len, q]
    · have s2 := signedR_v (G := G) (B := B) (y * 256 + x) (by omega)
      have z := sz_in (y * 256 + x)
      have q : (((sz (y * 256 + x)).toNat : Nat) : Int) = sz (y * 256 + x) := by omega
      simp (disch := first | omega | (simp only [List.length_append, List.length_cons, List.length_nil, List.length_map, sgK_len]; omega)) only [go_sem, Nat.reduceAdd, Nat.reduceSub, Nat.reduceMul, Nat.reduceLeDiff, Nat.reduceEqDiff, h142c, s1, s2, c, pow15_v, pow16_v, Int.reduceMul, Int.reduceSub, bC, sgK_len, q]
theorem runR_bad1 (last h : Int) (t : List Int) (c : ¬ ((1 ≤ h % 16 ∧ h % 16 ≤ 2) ∧ h / 16 ≤ 2)) : (runR last h t).2.1 = false := by
  rw [runR, if_neg c]
theorem numR_short {bs : List Int} {a : Nat} (h : bs.length < a) : numR bs a = (0, false, bs) := if_pos h
theorem numR_full {bs : List Int} {a : Nat} (h : a ≤ bs.length) : (numR bs a).2.2 = bs.drop a := by rw [numR, if_neg (by omega)]
theorem runR_n1 (last h : Int) (t : List Int) (c : (numR t (h % 16).toNat).2.1 = false) : (runR last h t).2.1 = false := by
  rw [runR]
  split
  · rw [if_pos (Or.inl c)]; exact c
  · rfl
theorem runR_short (last h : Int) (t : List Int) (c : (1 ≤ h % 16 ∧ h % 16 ≤ 2) ∧ (0 ≤ h / 16 ∧ h / 16 ≤ 2)) (c2 : (t.length : Int) < h % 16 + h / 16) : (runR last h t).2.1 = false := by
  by_cases c3 : t.length < (h % 16).toNat
  · exact runR_n1 _ _ _ (by rw [numR_short c3])
  · by_cases c4 : (numR t (h % 16).toNat).2.1 = false
    · exact runR_n1 _ _ _ c4
    · rw [runR, if_pos ⟨c.1, c.2.2⟩, if_neg (by
        rintro (h1 | h1)
        · exact c4 h1
        · omega)]
      rw [numR_full (by omega), numR_short (bs := t.drop (h % 16).toNat) (by rw [List.length_drop]; omega)]
      rfl
theorem runR_b0 (last h : Int) (t : List Int) (c : 1 ≤ h % 16 ∧ h % 16 ≤ 2) (c2 : h / 16 = 0) (c3 : (h % 16).toNat ≤ t.length) :
    runR last h t = (⟨-1, (numR t (h % 16).toNat).1⟩, (numR t (h % 16).toNat).2.1, t.drop (h % 16).toNat) := by
  rw [runR, if_pos ⟨c, by omega⟩, if_pos (Or.inr c2), numR_full c3]
theorem runR_b (last h : Int) (t : List Int) (c : (1 ≤ h % 16 ∧ h % 16 ≤ 2) ∧ (1 ≤ h / 16 ∧ h / 16 ≤ 2)) (c3 : (h % 16).toNat + (h / 16).toNat ≤ t.length) (c4 : (numR t (h % 16).toNat).2.1 = true) :
    runR last h t = (⟨last + (numR (t.drop (h % 16).toNat) (h / 16).toNat).1, (numR t (h % 16).toNat).1⟩, (numR (t.drop (h % 16).toNat) (h / 16).toNat).2.1 && !decide (last + (numR (t.drop (h % 16).toNat) (h / 16).toNat).1 = -1), t.drop ((h % 16).toNat + (h / 16).toNat)) := by
  rw [runR, if_pos ⟨c.1, c.2.2⟩, if_neg (by rw [c4]; simp; omega), numR_full (by omega), numR_full (bs := t.drop (h % 16).toNat) (by rw [List.length_drop]; omega), List.drop_drop]
theorem numR_sfx (bs : List Int) (a : Nat) : (numR bs a).2.2 <:+ bs := by
  unfold numR
  split
  · exact List.suffix_refl _
  · exact List.drop_suffix _ _
theorem runR_sfx (last h : Int) (t : List Int) : (runR last h t).2.2 <:+ t := by
  unfold runR
  split
  · split
    · exact numR_sfx _ _
    · exact (numR_sfx _ _).trans (numR_sfx _ _)
  · exact List.suffix_refl _
theorem dK_sfx (s : List Int) : ∀ k, (dK s k).bs <:+ s
  | 0 => List.suffix_refl _
  | k + 1 => by
    have ih := dK_sfx s k
    simp only [dK]
    generalize dK s k = z at ih ⊢
    obtain ⟨bs, last, out⟩ := z
    cases bs with
    | nil => simp [dstep]
    | cons h t =>
      simp only [dstep]
      split
      · exact ih
      · split
        · exact (runR_sfx last h t).trans ((List.suffix_cons h t).trans ih)
        · exact ih
theorem at_drop {s bs : List Int} (h : bs <:+ s) : s.drop (s.length - bs.length) = bs := (List.suffix_iff_eq_drop.1 h).symm
theorem at_facts {s t : List Int} {h : Int} (sfx : (h :: t) <:+ s) : ∃ a, s.length = a + (t.length + 1) ∧ s.length - (h :: t).length = a ∧ s.drop (a + 1) = t ∧ ∃ ha : a < s.length, s[a] = h := by
  have hl := sfx.length_le
  simp only [List.length_cons] at hl
  refine ⟨s.length - (t.length + 1), by omega, rfl, ?_, by omega, ?_⟩
  all_goals
    have hd := at_drop sfx
    rw [List.length_cons, List.drop_eq_getElem_cons (by omega)] at hd
  · exact (List.cons.inj hd).2
  · exact (List.cons.inj hd).1
set_option maxHeartbeats 2000000 in
theorem decodeR_round (s : List Int) (hB : Byts s) (c0 : ¬ (s.length : Int) > 400) (k : Nat) (hn : ∀ j, j ≤ k → ¬ dstep (dK s j) = none) :
    rnK [0, 3, 0, 0] 1 (EC (EV G (Tb B)) G h95l0 ⟨(sv s :: jk 3 (.one (.bld 0 (dK s k).out.length) :: vi ((s.length - (dK s k).bs.length : Nat)) :: vi (dK s k).last :: jk 106 [])), [.arr 0 2 ((dK s k).out.map Run.e)]⟩) =
    some ⟨(sv s :: jk 3 (.one (.bld 0 (dK s (k + 1)).out.length) :: vi ((s.length - (dK s (k + 1)).bs.length : Nat)) :: vi (dK s (k + 1)).last :: jk 106 [])), [.arr 0 2 ((dK s (k + 1)).out.map Run.e)]⟩ := by
  obtain ⟨g1, g2, g3, g4⟩ := dK_ok s hB k (fun j hj => hn j (by omega))
  have e2 := hn k (Nat.le_refl _)
  have sfx := dK_sfx s k
  rw [show dK s (k + 1) = (dstep (dK s k)).getD (dK s k) from rfl]
  generalize dK s k = z at *
  obtain ⟨bs, last, out⟩ := z
  simp only at e2 g1 g2 g3 g4 sfx ⊢
  cases bs with
  | nil => exact absurd rfl e2
  | cons h t =>
    obtain ⟨hh, ht⟩ := byts_cons g4
    obtain ⟨a, ha, hat, hd, hlt, he⟩ := at_facts sfx
    rw [hat]
    by_cases c : h = 0
    · simp [dstep, c] at e2
    · simp only [dstep, if_neg c] at e2 ⊢
      by_cases c1 : (1 ≤ h % 16 ∧ h % 16 ≤ 2) ∧ h / 16 ≤ 2
      · by_cases c3 : (t.length : Int) < h % 16 + h / 16
        · rw [runR_short last h t ⟨c1.1, by omega⟩ c3] at e2; simp at e2
        · have s1 := signedAt_v (G := G) (B := B) s hB (a + 1) (h % 16).toNat (by omega) (by omega) (by omega)
          rw [hd, show ((a + 1 : Nat) : Int) = (a : Int) + 1 by omega, show (((h % 16).toNat : Nat) : Int) = h % 16 by omega] at s1
          cases ok1 : (numR t (h % 16).toNat).2.1 with
          | false => rw [runR_n1 last h t ok1] at e2; simp at e2
          | true =>
            rw [ok1] at s1
            by_cases c4 : h / 16 = 0
            · rw [runR_b0 last h t c1.1 c4 (by omega), ok1] at e2 ⊢
              have hq : (((s.length - (t.drop (h % 16).toNat).length : Nat)) : Int) = (a : Int) + 1 + h % 16 := by rw [List.length_drop]; omega
              generalize (numR t (h % 16).toNat).1 = n1 at *
              simp only [if_true, Option.getD_some]
              rw [hq]
              simp (disch := first | omega | (simp only [List.length_append, List.length_cons, List.length_nil, List.length_map, sgK_len]; omega)) only [go_sem, Nat.reduceAdd, Nat.reduceSub, Nat.reduceMul, Nat.reduceLeDiff, Nat.reduceEqDiff, h95l0, he, c, c1, c4, tmod_nn, tdiv_nn, within_r, s1, bC, List.getElem_map, map_snoc, List.length_append, Int.add_zero]
            · have s2 := signedAt_v (G := G) (B := B) s hB (a + 1 + (h % 16).toNat) (h / 16).toNat (by omega) (by omega) (by omega)
              rw [← List.drop_drop, hd, show ((a + 1 + (h % 16).toNat : Nat) : Int) = (a : Int) + 1 + h % 16 by omega, show (((h / 16).toNat : Nat) : Int) = h / 16 by omega] at s2
              rw [runR_b last h t ⟨c1.1, by omega⟩ (by omega) ok1] at e2 ⊢
              have hq : (((s.length - (t.drop ((h % 16).toNat + (h / 16).toNat)).length : Nat)) : Int) = (a : Int) + 1 + h % 16 + h / 16 := by rw [List.length_drop]; omega
              have k2 := numR_in (byts_sub ht (fun x hx => List.mem_of_mem_drop hx) : Byts (t.drop (h % 16).toNat)) (h / 16).toNat
              generalize (numR t (h % 16).toNat).1 = n1 at *
              generalize (numR (t.drop (h % 16).toNat) (h / 16).toNat) = N2 at *
              obtain ⟨n2, ok2, t2⟩ := N2
              simp only at e2 s2 k2 ⊢
              cases ok2
              · simp at e2
              · by_cases c5 : last + n2 = -1
                · simp [c5] at e2
                · simp only [c5, decide_false, Bool.not_false, Bool.and_self, if_true, if_false, Option.getD_some]
                  rw [hq]
                  simp (disch := first | omega | (simp only [List.length_append, List.length_cons, List.length_nil, List.length_map, sgK_len]; omega)) only [go_sem, Nat.reduceAdd, Nat.reduceSub, Nat.reduceMul, Nat.reduceLeDiff, Nat.reduceEqDiff, h95l0, he, c, c1, c4, c5, tmod_nn, tdiv_nn, within_r, s1, s2, bC, List.getElem_map, map_snoc, List.length_append]
      · rw [runR_bad1 last h t c1] at e2; simp at e2
set_option maxHeartbeats 2000000 in
theorem decodeR_v (s : List Int) (hB : Byts s) : EV G (Tb B) 95 [sv s] [] = some (.tup [.one (.dc (.slc ((decV s).1.map Run.e))), .one (.dc (ci (decV s).2))], []) := by
  refine EV_run rfl ?_
  unfold decV
  by_cases c0 : (s.length : Int) > 400
  · rw [if_pos c0]
    simp (disch := first | omega | (simp only [List.length_append, List.length_cons, List.length_nil, List.length_map, sgK_len]; omega)) only [go_sem, Nat.reduceAdd, Nat.reduceSub, Nat.reduceMul, Nat.reduceLeDiff, Nat.reduceEqDiff, h95c, List.map_nil]
  · rw [if_neg c0]
    simp (disch := first | omega | (simp only [List.length_append, List.length_cons, List.length_nil, List.length_map, sgK_len]; omega)) only [go_sem, Nat.reduceAdd, Nat.reduceSub, Nat.reduceMul, Nat.reduceLeDiff, Nat.reduceEqDiff, h95c]
    rw [EL_fst (fun k => ⟨(sv s :: jk 3 (.one (.bld 0 (dK s k).out.length) :: vi ((s.length - (dK s k).bs.length : Nat)) :: vi (dK s k).last :: jk 106 [])), [.arr 0 2 ((dK s k).out.map Run.e)]⟩) (fun k => dstep (dK s k) = none) (s.length + 1) ?_ ?_]
    · obtain ⟨e1, e2, e3⟩ := dEnd_spec s hB
      obtain ⟨g1, g2, g3, g4⟩ := dK_ok s hB _ e3
      have sfx := dK_sfx s (dEnd s)
      rw [show ix (fun k => dstep (dK s k) = none) (s.length + 1) = dEnd s from rfl]
      generalize dK s (dEnd s) = z at *
      obtain ⟨bs, last, out⟩ := z
      simp only at e2 g1 g2 g3 g4 sfx ⊢
      cases bs with
      | nil =>
        rw [show decZ ⟨[], last, out⟩ = ([], 3) from rfl]
        simp only [List.length_nil, Nat.sub_zero]
        simp (disch := first | omega | (simp only [List.length_append, List.length_cons, List.length_nil, List.length_map, sgK_len]; omega)) only [go_sem, Nat.reduceAdd, Nat.reduceSub, Nat.reduceMul, Nat.reduceLeDiff, Nat.reduceEqDiff, h95l0, List.map_nil]
      | cons h t =>
        obtain ⟨hh, ht⟩ := byts_cons g4
        obtain ⟨a, ha, hat, hd, hlt, he⟩ := at_facts sfx
        rw [hat]
        by_cases c : h = 0
        · subst c
          match t with
          | [] =>
            simp only [List.length_nil] at ha
            by_cases c2 : (chk out).2 = 0
            · rw [show decZ ⟨[0], last, out⟩ = (out, 0) by simp [decZ, decE, c2]]
              simp (disch := first | omega | (simp only [List.length_append, List.length_cons, List.length_nil, List.length_map, sgK_len]; omega)) only [go_sem, Nat.reduceAdd, Nat.reduceSub, Nat.reduceMul, Nat.reduceLeDiff, Nat.reduceEqDiff, h95l0, he, err_r, c2, take_map_len, List.getElem_map]
            · rw [show decZ ⟨[0], last, out⟩ = ([], (chk out).2) by simp [decZ, decE, c2]]
              simp (disch := first | omega | (simp only [List.length_append, List.length_cons, List.length_nil, List.length_map, sgK_len]; omega)) only [go_sem, Nat.reduceAdd, Nat.reduceSub, Nat.reduceMul, Nat.reduceLeDiff, Nat.reduceEqDiff, h95l0, he, err_r, c2, take_map_len, List.map_nil, List.getElem_map]
          | x :: t =>
            simp only [List.length_cons] at ha
            rw [show decZ ⟨0 :: x :: t, last, out⟩ = ([], 3) by simp [decZ, decE]]
            simp (disch := first | omega | (simp only [List.length_append, List.length_cons, List.length_nil, List.length_map, sgK_len]; omega)) only [go_sem, Nat.reduceAdd, Nat.reduceSub, Nat.reduceMul, Nat.reduceLeDiff, Nat.reduceEqDiff, h95l0, he, List.map_nil, List.getElem_map]
        · simp only [dstep, if_neg c] at e2
          rw [show decZ ⟨h :: t, last, out⟩ = ([], 3) by simp [decZ, decE, c]]
          have e2 : (runR last h t).2.1 = false := by
            cases hr : (runR last h t).2.1 with
            | false => rfl
            | true => rw [hr] at e2; simp at e2
          by_cases c1 : 1 ≤ h % 16 ∧ h % 16 ≤ 2
          · by_cases c2 : h / 16 ≤ 2
            · by_cases c3 : (t.length : Int) < h % 16 + h / 16
              · simp (disch := first | omega | (simp only [List.length_append, List.length_cons, List.length_nil, List.length_map, sgK_len]; omega)) only [go_sem, Nat.reduceAdd, Nat.reduceSub, Nat.reduceMul, Nat.reduceLeDiff, Nat.reduceEqDiff, h95l0, he, c, c1, c2, tmod_nn, tdiv_nn, within_r, List.getElem_map, List.map_nil]
              · have s1 := signedAt_v (G := G) (B := B) s hB (a + 1) (h % 16).toNat (by omega) (by omega) (by omega)
                rw [hd, show ((a + 1 : Nat) : Int) = (a : Int) + 1 by omega, show (((h % 16).toNat : Nat) : Int) = h % 16 by omega] at s1
                cases ok1 : (numR t (h % 16).toNat).2.1 with
                | false =>
                  rw [ok1] at s1
                  simp (disch := first | omega | (simp only [List.length_append, List.length_cons, List.length_nil, List.length_map, sgK_len]; omega)) only [go_sem, Nat.reduceAdd, Nat.reduceSub, Nat.reduceMul, Nat.reduceLeDiff, Nat.reduceEqDiff, h95l0, he, c, c1, c2, tmod_nn, tdiv_nn, within_r, s1, bC, List.getElem_map, List.map_nil]
                | true =>
                  rw [ok1] at s1
                  by_cases c4 : h / 16 = 0
                  · rw [runR_b0 last h t c1 c4 (by omega), ok1] at e2; cases e2
                  · have s2 := signedAt_v (G := G) (B := B) s hB (a + 1 + (h % 16).toNat) (h / 16).toNat (by omega) (by omega) (by omega)
                    rw [← List.drop_drop, hd, show ((a + 1 + (h % 16).toNat : Nat) : Int) = (a : Int) + 1 + h % 16 by omega, show (((h / 16).toNat : Nat) : Int) = h / 16 by omega] at s2
                    rw [runR_b last h t ⟨c1, by omega⟩ (by omega) ok1] at e2
                    have k2 := numR_in (byts_sub ht (fun x hx => List.mem_of_mem_drop hx) : Byts (t.drop (h % 16).toNat)) (h / 16).toNat
                    generalize (numR t (h % 16).toNat).1 = n1 at *
                    generalize (numR (t.drop (h % 16).toNat) (h / 16).toNat) = N2 at *
                    obtain ⟨n2, ok2, t2⟩ := N2
                    simp only at e2 s2 k2
                    cases ok2
                    · simp (disch := first | omega | (simp only [List.length_append, List.length_cons, List.length_nil, List.length_map, sgK_len]; omega)) only [go_sem, Nat.reduceAdd, Nat.reduceSub, Nat.reduceMul, Nat.reduceLeDiff, Nat.reduceEqDiff, h95l0, he, c, c1, c2, c4, tmod_nn, tdiv_nn, within_r, s1, s2, bC, List.getElem_map, List.map_nil]
                    · have c5 : last + n2 = -1 := by simpa using e2
                      simp (disch := first | omega | (simp only [List.length_append, List.length_cons, List.length_nil, List.length_map, sgK_len]; omega)) only [go_sem, Nat.reduceAdd, Nat.reduceSub, Nat.reduceMul, Nat.reduceLeDiff, Nat.reduceEqDiff, h95l0, he, c, c1, c2, c4, c5, tmod_nn, tdiv_nn, within_r, s1, s2, bC, List.getElem_map, List.map_nil]
            · simp (disch := first | omega | (simp only [List.length_append, List.length_cons, List.length_nil, List.length_map, sgK_len]; omega)) only [go_sem, Nat.reduceAdd, Nat.reduceSub, Nat.reduceMul, Nat.reduceLeDiff, Nat.reduceEqDiff, h95l0, he, c, c1, c2, tmod_nn, tdiv_nn, within_r, List.getElem_map, List.map_nil]
          · simp (disch := first | omega | (simp only [List.length_append, List.length_cons, List.length_nil, List.length_map, sgK_len]; omega)) only [go_sem, Nat.reduceAdd, Nat.reduceSub, Nat.reduceMul, Nat.reduceLeDiff, Nat.reduceEqDiff, h95l0, he, c, c1, tmod_nn, tdiv_nn, within_r, List.getElem_map, List.map_nil]
    · rw [show s.length - (dK s 0).bs.length = 0 from Nat.sub_self _]; rfl
    · intro k hk hn
      exact decodeR_round s hB c0 k hn
end
section
set_option maxRecDepth 4000
set_option linter.unusedSimpArgs false
set_option linter.unusedVariables false
variable {G : Glob} {bb : Bool}
theorem ix_at {p : Nat → Prop} {n m : Nat} (hm : m < n) (h1 : p m) (h2 : ∀ j, j < m → ¬ p j) : ix p n = m := by
  obtain ⟨g1, g2, g3⟩ := ix_spec p n
  rcases Nat.lt_trichotomy (ix p n) m with h | h | h
  · rcases g2 with g2 | ⟨_, g2⟩
    · omega
    · exact absurd g2 (h2 _ h)
  · exact h
  · exact absurd h1 (g3 _ h)
theorem sz_or (n : Int) : sz n = 1 ∨ sz n = 2 := by unfold sz; split <;> simp
theorem sval1 (n : Int) (h : -128 ≤ n ∧ n ≤ 127) : sval (sgK n 1) = n := by
  show sval [n % 256] = n
  simp only [sval]
  split <;> omega
theorem sval2 (n : Int) (h : -32768 ≤ n ∧ n ≤ 32767) : sval (sgK n 2) = n := by
  show sval [n % 256, n / 256 % 256] = n
  simp only [sval]
  split <;> omega
theorem numR_sg (n : Int) (h : -32768 ≤ n ∧ n ≤ 32767) (rest : List Int) : numR (sgK n (sz n).toNat ++ rest) (sz n).toNat = (n, true, rest) := by
  unfold numR
  rw [if_neg (by rw [List.length_append, sgK_len]; omega), List.take_left' (sgK_len _ _), List.drop_left' (sgK_len _ _)]
  have e : sval (sgK n (sz n).toNat) = n := by
    unfold sz
    split
    · exact sval1 n (by assumption)
    · exact sval2 n h
  rw [e]
  have : sz n = ((sz n).toNat : Int) := by have := sz_or n; omega
  rw [decide_eq_true this]
theorem numR_few (t : List Int) (a : Nat) (h : t.length < a) : (numR t a).2.1 = false := by
  unfold numR
  rw [if_pos h]
/-- the bytes of a run: the first one, and the others -/
def encH (last : Int) (r : Run) : Int := if r.s = -1 then sz r.n else 16 * sz (r.s - last) + sz r.n
def encT (last : Int) (r : Run) : List Int := if r.s = -1 then sgK r.n (sz r.n).toNat else sgK r.n (sz r.n).toNat ++ sgK (r.s - last) (sz (r.s - last)).toNat
theorem encR_ht (last : Int) (r : Run) : encR last r = encH last r :: encT last r := by
  unfold encR encH encT
  split <;> rfl
theorem encH_0 (last : Int) (r : Run) : encH last r ≠ 0 := by
  have h1 := sz_or r.n
  have h2 := sz_or (r.s - last)
  unfold encH
  split <;> omega
theorem run_rg {r : Run} (h : rangeE r.s r.n = 0) : (1 ≤ r.n ∧ r.n ≤ 4096) ∧ (r.s = -1 ∨ 0 ≤ r.s ∧ r.s ≤ 511) := by
  rcases rangeE_ok h with ⟨h1, h2, h3⟩ | ⟨s, n, h1, h2, h3, h4⟩
  · exact ⟨by omega, by omega⟩
  · exact ⟨by omega, by omega⟩
theorem runR_enc {last : Int} {r : Run} (hr : rangeE r.s r.n = 0) (hl : 0 ≤ last ∧ last ≤ 511) (rest : List Int) : runR last (encH last r) (encT last r ++ rest) = (r, true, rest) := by
  obtain ⟨⟨a1, a2⟩, a3⟩ := run_rg hr
  have s1 := sz_or r.n
  have s2 := sz_or (r.s - last)
  have n1 := numR_sg r.n (by omega)
  unfold encH encT
  by_cases c : r.s = -1
  · rw [if_pos c, if_pos c]
    have e1 : sz r.n % 16 = sz r.n := by omega
    have e2 : sz r.n / 16 = 0 := by omega
    unfold runR
    rw [e1, e2, if_pos (by omega), if_pos (.inr rfl), n1 rest]
    simp only
    cases r
    simp only at c
    rw [c]
  · rw [if_neg c, if_neg c]
    have e1 : (16 * sz (r.s - last) + sz r.n) % 16 = sz r.n := by omega
    have e2 : (16 * sz (r.s - last) + sz r.n) / 16 = sz (r.s - last) := by omega
    unfold runR
    rw [e1, e2, if_pos (by omega), List.append_assoc, n1, if_neg (by simp; omega)]
    simp only
    rw [numR_sg (r.s - last) (by omega) rest]
    simp only
    rw [show last + (r.s - last) = r.s by omega, decide_eq_false c]
    cases r
    rfl
/-- a strict beginning of a run's bytes is none -/
theorem runR_few {last : Int} {r : Run} (hr : rangeE r.s r.n = 0) (hl : 0 ≤ last ∧ last ≤ 511) (m : Nat) (hm : m < (encT last r).length) : (runR last (encH last r) ((encT last r).take m)).2.1 = false := by
  obtain ⟨⟨a1, a2⟩, a3⟩ := run_rg hr
  have s1 := sz_or r.n
  have s2 := sz_or (r.s - last)
  have n1 := numR_sg r.n (by omega)
  unfold encT at hm ⊢
  unfold encH
  by_cases c : r.s = -1
  · rw [if_pos c] at hm ⊢
    rw [if_pos c]
    rw [sgK_len] at hm
    have e1 : sz r.n % 16 = sz r.n := by omega
    have e2 : sz r.n / 16 = 0 := by omega
    unfold runR
    rw [e1, e2, if_pos (by omega), if_pos (.inr rfl)]
    exact numR_few _ _ (by rw [List.length_take, sgK_len]; omega)
  · rw [if_neg c] at hm ⊢
    rw [if_neg c]
    rw [List.length_append, sgK_len, sgK_len] at hm
    have e1 : (16 * sz (r.s - last) + sz r.n) % 16 = sz r.n := by omega
    have e2 : (16 * sz (r.s - last) + sz r.n) / 16 = sz (r.s - last) := by omega
    unfold runR
    rw [e1, e2, if_pos (by omega)]
    by_cases h : m < (sz r.n).toNat
    · have h1 := numR_few ((sgK r.n (sz r.n).toNat ++ sgK (r.s - last) (sz (r.s - last)).toNat).take m) (sz r.n).toNat (by rw [List.length_take]; omega)
      rw [if_pos (.inl h1)]
      exact h1
    · rw [List.take_append, sgK_len, List.take_of_length_le (by rw [sgK_len]; omega), n1, if_neg (by simp; omega)]
      simp only
      rw [numR_few _ _ (by rw [List.length_take, sgK_len]; omega)]
      rfl
def nxt (last : Int) (r : Run) : Int := if r.s = -1 then last else r.s
theorem dstep_enc {last : Int} {r : Run} (hr : rangeE r.s r.n = 0) (hl : 0 ≤ last ∧ last ≤ 511) (rest : List Int) (out : List Run) : dstep ⟨encR last r ++ rest, last, out⟩ = some ⟨rest, nxt last r, out ++ [r]⟩ := by
  rw [encR_ht]
  unfold dstep
  simp only [List.cons_append]
  rw [if_neg (encH_0 _ _), runR_enc hr hl]
  simp only [if_true]
  rfl
def encF (last : Int) : List Run → List Int
  | [] => []
  | r :: l => encR last r ++ encF (nxt last r) l
theorem encL_F (l : List Run) : (encL l).1 = encF 0 l := by
  have key : ∀ (l : List Run) (p : List Int) (last : Int), (l.foldl est (p, last)).1 = p ++ encF last l := by
    intro l
    induction l with
    | nil => intro p last; simp [encF]
    | cons r l ih =>
      intro p last
      have e : est (p, last) r = (p ++ encR last r, nxt last r) := rfl
      rw [List.foldl_cons, e, ih]
      simp only [encF, List.append_assoc]
  have := key l [] 0
  simpa [encL] using this
def dM : Nat → DS → DS
  | 0, z => z
  | k + 1, z => (dstep (dM k z)).getD (dM k z)
theorem dK_M (s : List Int) : ∀ k, dK s k = dM k ⟨s, 0, []⟩
  | 0 => rfl
  | k + 1 => by rw [dK, dM, dK_M s k]
theorem dM_next {z z' : DS} (h : dstep z = some z') : ∀ k, dM (k + 1) z = dM k z'
  | 0 => by show (dstep z).getD z = z'; rw [h]; rfl
  | k + 1 => by rw [dM, dM_next h k, dM]
theorem nxt_rg {last : Int} {r : Run} (hr : rangeE r.s r.n = 0) (hl : 0 ≤ last ∧ last ≤ 511) : 0 ≤ nxt last r ∧ nxt last r ≤ 511 := by
  have := (run_rg hr).2
  unfold nxt
  split <;> omega
theorem dM_enc : ∀ (l : List Run) (last : Int) (out : List Run) (rest : List Int), (∀ r ∈ l, rangeE r.s r.n = 0) → 0 ≤ last ∧ last ≤ 511 →
    (∃ x, dM l.length ⟨encF last l ++ rest, last, out⟩ = ⟨rest, x, out ++ l⟩) ∧ ∀ j, j < l.length → ¬ dstep (dM j ⟨encF last l ++ rest, last, out⟩) = none
  | [], last, out, rest, _, _ => ⟨⟨last, by simp [dM, encF]⟩, fun j hj => by simp at hj⟩
  | r :: l, last, out, rest, h, hl => by
    have hr := h r List.mem_cons_self
    have hs := dstep_enc hr hl (encF (nxt last r) l ++ rest) out
    obtain ⟨⟨x, h1⟩, h2⟩ := dM_enc l (nxt last r) (out ++ [r]) rest (fun q hq => h q (List.mem_cons_of_mem _ hq)) (nxt_rg hr hl)
    have e : encF last (r :: l) ++ rest = encR last r ++ (encF (nxt last r) l ++ rest) := by rw [encF, List.append_assoc]
    rw [e]
    refine ⟨⟨x, ?_⟩, fun j hj => ?_⟩
    · show dM (l.length + 1) _ = _
      rw [dM_next hs, h1, List.append_assoc]
      rfl
    · cases j with
      | zero =>
        intro g
        have g' : dstep ⟨encR last r ++ (encF (nxt last r) l ++ rest), last, out⟩ = none := g
        rw [hs] at g'
        cases g'
      | succ j => rw [dM_next hs]; exact h2 j (by simpa using hj)
theorem encF_len {l : List Run} (h : (chk l).2 = 0) : (encF 0 l).length ≤ 320 := by
  rw [← encL_F]; exact encL_len h
/-- the bytes of a runlist are decoded to it -/
theorem dec_enc {l : List Run} (h : (chk l).2 = 0) : decV ((encL l).1 ++ [0]) = (l, 0) := by
  have hlen := encF_len h
  obtain ⟨⟨x, h1⟩, h2⟩ := dM_enc l 0 [] [0] (chk_rg h) (by omega)
  have hl := chk_len h
  have hll : l.length < (encF 0 l ++ [0]).length + 1 := by
    have : ∀ (l : List Run) (last : Int), l.length ≤ (encF last l).length := by
      intro l
      induction l with
      | nil => intro _; simp
      | cons r l ih => intro last; have := ih (nxt last r); simp only [encF, encR_ht, List.length_append, List.length_cons]; omega
    have := this l 0
    simp only [List.length_append, List.length_cons, List.length_nil]
    omega
  rw [encL_F]
  have hE : dEnd (encF 0 l ++ [0]) = l.length := by
    unfold dEnd
    refine ix_at hll ?_ (fun j hj => ?_)
    · rw [dK_M, h1]; rfl
    · rw [dK_M]; exact h2 j hj
  unfold decV
  rw [if_neg (by simp only [List.length_append, List.length_cons, List.length_nil]; omega), hE, dK_M, h1]
  unfold decZ
  rw [if_neg (by simp [decE]), if_neg (by simp only [List.nil_append]; omega)]
  rfl
theorem dec_short : ∀ (l : List Run) (last : Int) (out : List Run) (m : Nat), (∀ r ∈ l, rangeE r.s r.n = 0) → 0 ≤ last ∧ last ≤ 511 → m < (encF last l).length + 1 →
    ∃ k, k ≤ m ∧ dstep (dM k ⟨(encF last l ++ [0]).take m, last, out⟩) = none ∧ (∀ j, j < k → ¬ dstep (dM j ⟨(encF last l ++ [0]).take m, last, out⟩) = none) ∧ decE (dM k ⟨(encF last l ++ [0]).take m, last, out⟩).bs ≠ 0
  | [], last, out, m, _, _, hm => by
    have : m = 0 := by simp [encF] at hm; omega
    subst this
    exact ⟨0, Nat.le_refl _, rfl, fun j hj => by omega, by simp [dM, decE]⟩
  | r :: l, last, out, m, h, hl, hm => by
    have hr := h r List.mem_cons_self
    have e : encF last (r :: l) ++ [0] = encR last r ++ (encF (nxt last r) l ++ [0]) := by rw [encF, List.append_assoc]
    rw [e]
    rw [encF, List.length_append] at hm
    by_cases hc : (encR last r).length ≤ m
    · have hpos : 0 < (encR last r).length := by rw [encR_ht]; simp
      have e2 : (encR last r ++ (encF (nxt last r) l ++ [0])).take m = encR last r ++ (encF (nxt last r) l ++ [0]).take (m - (encR last r).length) := by
        rw [List.take_append, List.take_of_length_le hc]
      rw [e2]
      have hs := dstep_enc hr hl ((encF (nxt last r) l ++ [0]).take (m - (encR last r).length)) out
      obtain ⟨k, k0, k1, k2, k3⟩ := dec_short l (nxt last r) (out ++ [r]) (m - (encR last r).length) (fun q hq => h q (List.mem_cons_of_mem _ hq)) (nxt_rg hr hl) (by omega)
      refine ⟨k + 1, by omega, by rw [dM_next hs]; exact k1, fun j hj => ?_, by rw [dM_next hs]; exact k3⟩
      cases j with
      | zero =>
        intro g
        have g' : dstep ⟨encR last r ++ (encF (nxt last r) l ++ [0]).take (m - (encR last r).length), last, out⟩ = none := g
        rw [hs] at g'
        cases g'
      | succ j => rw [dM_next hs]; exact k2 j (by omega)
    · have e2 : (encR last r ++ (encF (nxt last r) l ++ [0])).take m = (encR last r).take m := by
        rw [List.take_append_of_le_length (by omega)]
      rw [e2]
      cases m with
      | zero => exact ⟨0, Nat.le_refl _, rfl, fun j hj => by omega, by simp [dM, decE]⟩
      | succ m =>
        rw [encR_ht] at hc ⊢
        rw [List.take_succ_cons]
        have hf := runR_few hr hl m (by simp only [List.length_cons] at hc; omega)
        refine ⟨0, by omega, ?_, fun j hj => by omega, ?_⟩
        · show (if encH last r = 0 then none else if (runR last (encH last r) ((encT last r).take m)).2.1 = true then some _ else none) = none
          rw [if_neg (encH_0 _ _), hf, if_neg (by decide)]
        · have e3 : decE (encH last r :: (encT last r).take m) = 3 := by
            unfold decE
            exact if_neg (fun g => encH_0 _ _ g.1)
          show decE (encH last r :: (encT last r).take m) ≠ 0
          rw [e3]
          decide
/-- a strict beginning of the bytes is no runlist -/
theorem dec_no {l : List Run} (h : (chk l).2 = 0) (m : Nat) (hm : m < (encL l).1.length + 1) : (decV (((encL l).1 ++ [0]).take m)).2 ≠ 0 := by
  have hlen := encF_len h
  rw [encL_F] at hm ⊢
  obtain ⟨k, k0, k1, k2, k3⟩ := dec_short l 0 [] m (chk_rg h) (by omega) hm
  have hE : dEnd ((encF 0 l ++ [0]).take m) = k := by
    unfold dEnd
    refine ix_at (by rw [List.length_take, List.length_append]; simp only [List.length_cons, List.length_nil]; omega) ?_ (fun j hj => ?_)
    · rw [dK_M]; exact k1
    · rw [dK_M]; exact k2 j hj
  unfold decV
  rw [if_neg (by rw [List.length_take]; simp only [List.length_append, List.length_cons, List.length_nil]; omega), hE, dK_M]
  unfold decZ
  rw [if_pos k3]
  decide
end
end Go.Proofs.YtmognenhkecngaaGreatDoor
