/- Runs of bytes, by the program. Conditions: none. -/
import Derived.Test.YtginjcpblgpcoaaVn
namespace Go.Proofs.Ytginjcpblgpcoaa
set_option maxRecDepth 4000
set_option linter.unusedSimpArgs false
set_option linter.unusedVariables false
variable {G : Glob} {B : CallT}
def tb3 (a b c : Int) : Nat → Int
  | 0 => a
  | 1 => b
  | _ => c
theorem tb3_0 (a b c : Int) : tb3 a b c 0 = a := rfl
theorem tb3_1 (a b c : Int) : tb3 a b c 1 = b := rfl
theorem tb3_2 (a b c : Int) : tb3 a b c 2 = c := rfl
abbrev bS (l : List Int) : AObj := .box [.dc (.raw (.string (str l)))]
def sval : List Int → Int
  | [x] => if 128 ≤ x then x - 256 else x
  | [x, y] => if 32768 ≤ y * 256 + x then y * 256 + x - 65536 else y * 256 + x
  | _ => 0
def numR (bs : List Int) (a : Nat) : Int × Bool × List Int := if bs.length < a then (0, false, bs) else (sval (bs.take a), decide (sz (sval (bs.take a)) = a), bs.drop a)
def runR (last h : Int) (t : List Int) : Run × Bool × List Int :=
  if (1 ≤ h % 16 ∧ h % 16 ≤ 2) ∧ h / 16 ≤ 2 then
    if (numR t (h % 16).toNat).2.1 = false ∨ h / 16 = 0 then (⟨-1, (numR t (h % 16).toNat).1⟩, (numR t (h % 16).toNat).2.1, (numR t (h % 16).toNat).2.2)
    else (⟨last + (numR (numR t (h % 16).toNat).2.2 (h / 16).toNat).1, (numR t (h % 16).toNat).1⟩, (numR (numR t (h % 16).toNat).2.2 (h / 16).toNat).2.1 && !decide (last + (numR (numR t (h % 16).toNat).2.2 (h / 16).toNat).1 = -1), (numR (numR t (h % 16).toNat).2.2 (h / 16).toNat).2.2)
  else (⟨0, 0⟩, false, t)
theorem or256 (n b : Int) (hn : 0 ≤ n ∧ n ≤ 255) (hb : 0 ≤ b ∧ b ≤ 255) : orI .i64 (n * 256) b = n * 256 + b := by
  obtain ⟨n, rfl⟩ := Int.eq_ofNat_of_zero_le hn.1
  obtain ⟨b, rfl⟩ := Int.eq_ofNat_of_zero_le hb.1
  have h1 : ((n : Int) * 256) = ((n * 256 : Nat) : Int) := by simp
  have h2 : n * 256 ||| b = n * 256 + b := by
    have := Nat.shiftLeft_add_eq_or_of_lt (show b < 2 ^ 8 by omega) n
    rw [Nat.shiftLeft_eq] at this
    exact this.symm
  rw [orI, h1, bits64, BitVec.ofInt_natCast, BitVec.ofInt_natCast, BitVec.toNat_or, BitVec.toNat_ofNat, BitVec.toNat_ofNat, Nat.mod_eq_of_lt (by omega), Nat.mod_eq_of_lt (by omega), h2, wrapS (by omega)]
  simp
theorem and15 (h : Int) (hh : 0 ≤ h ∧ h ≤ 255) : andI .i64 h 15 = h % 16 := by
  obtain ⟨n, rfl⟩ := Int.eq_ofNat_of_zero_le hh.1
  have h2 : n &&& 15 = n % 16 := Nat.and_two_pow_sub_one_eq_mod n 4
  have h3 : (15 : Int) = ((15 : Nat) : Int) := rfl
  rw [andI, h3, bits64, BitVec.ofInt_natCast, BitVec.ofInt_natCast, BitVec.toNat_and, BitVec.toNat_ofNat, BitVec.toNat_ofNat, Nat.mod_eq_of_lt (by omega), Nat.mod_eq_of_lt (by omega), h2, wrapS (by omega)]
  simp
theorem fdiv16 (n : Int) : n.fdiv 16 = n / 16 := Int.fdiv_eq_ediv_of_nonneg _ (by decide)
theorem byts_cons {x : Int} {l : List Int} (h : Byts (x :: l)) : (0 ≤ x ∧ x ≤ 255) ∧ Byts l := ⟨h x List.mem_cons_self, fun b hb => h b (List.mem_cons_of_mem _ hb)⟩
theorem number1_v (bs : List Int) (hB : Byts bs) : EV G (Tb B) 80 [.one (.ptr 0 0), vi 1] [bS bs] = some (.tup [.one (.dc (ci (numR bs 1).1)), .one (bC (numR bs 1).2.1)], [bS (numR bs 1).2.2]) := by
  refine EV_run rfl ?_
  match bs, hB with
  | [], hB => simp (disch := first | omega | (simp only [List.length_append, List.length_cons, List.length_nil, List.length_map, sgK_len]; omega)) only [go_sem, Nat.reduceAdd, Nat.reduceSub, Nat.reduceMul, Nat.reduceLeDiff, Nat.reduceEqDiff, h80c, numR, str_size]
              rfl
  | x :: t, hB =>
    obtain ⟨hx, _⟩ := byts_cons hB
    have o1 := or256 0 x (by omega) hx
    rw [Int.zero_mul, Int.zero_add] at o1
    simp (disch := first | omega | (simp only [List.length_append, List.length_cons, List.length_nil, List.length_map, sgK_len]; omega)) only [go_sem, Nat.reduceAdd, Nat.reduceSub, Nat.reduceMul, Nat.reduceLeDiff, Nat.reduceEqDiff, h80c, Int.reduceSub]
    rw [EL_loop (fun k => ⟨(.one (.ptr 0 0) :: vi 1 :: jk 4 (vi (tb3 0 x x k) :: vi (tb3 0 (-1) (-1) k) :: jk 44 [])), [bS (x :: t)]⟩) 1 ?_ ?_]
    · have hv : numR (x :: t) 1 = (sval [x], decide (sz (sval [x]) = 1), t) := by rw [numR, if_neg (by simp)]; rfl
      rw [hv]
      simp only [sval]
      by_cases c : 128 ≤ x
      · have s1 := sizeOf_v (G := G) (B := B) (x - 256) (by omega)
        simp (disch := first | omega | (simp only [List.length_append, List.length_cons, List.length_nil, List.length_map, sgK_len]; omega)) only [go_sem, Nat.reduceAdd, Nat.reduceSub, Nat.reduceMul, Nat.reduceLeDiff, Nat.reduceEqDiff, h80l0, tb3_1, Int.reduceMul, Int.reduceSub, Int.reduceToNat, Int.reducePow, Nat.reducePow, Int.reduceNeg, c, s1, bC]
      · have s1 := sizeOf_v (G := G) (B := B) x (by omega)
        simp (disch := first | omega | (simp only [List.length_append, List.length_cons, List.length_nil, List.length_map, sgK_len]; omega)) only [go_sem, Nat.reduceAdd, Nat.reduceSub, Nat.reduceMul, Nat.reduceLeDiff, Nat.reduceEqDiff, h80l0, tb3_1, Int.reduceMul, Int.reduceSub, Int.reduceToNat, Int.reducePow, Nat.reducePow, Int.reduceNeg, c, s1, bC]
    · rfl
    · intro k hk
      have hk0 : k = 0 := by omega
      subst hk0
      simp (disch := first | omega | (simp only [List.length_append, List.length_cons, List.length_nil, List.length_map, sgK_len]; omega)) only [go_sem, Nat.reduceAdd, Nat.reduceSub, Nat.reduceMul, Nat.reduceLeDiff, Nat.reduceEqDiff, h80l0, tb3_0, tb3_1, Int.reduceMul, Int.reduceSub, Int.reduceToNat, Int.reducePow, Nat.reducePow, Int.reduceNeg, o1, Int.zero_mul]
theorem number2_v (bs : List Int) (hB : Byts bs) : EV G (Tb B) 80 [.one (.ptr 0 0), vi 2] [bS bs] = some (.tup [.one (.dc (ci (numR bs 2).1)), .one (bC (numR bs 2).2.1)], [bS (numR bs 2).2.2]) := by
  refine EV_run rfl ?_
  match bs, hB with
  | [], hB => simp (disch := first | omega | (simp only [List.length_append, List.length_cons, List.length_nil, List.length_map, sgK_len]; omega)) only [go_sem, Nat.reduceAdd, Nat.reduceSub, Nat.reduceMul, Nat.reduceLeDiff, Nat.reduceEqDiff, h80c, numR, str_size]
              rfl
  | [x], hB => simp (disch := first | omega | (simp only [List.length_append, List.length_cons, List.length_nil, List.length_map, sgK_len]; omega)) only [go_sem, Nat.reduceAdd, Nat.reduceSub, Nat.reduceMul, Nat.reduceLeDiff, Nat.reduceEqDiff, h80c, numR, str_size]
               rfl
  | x :: y :: t, hB =>
    obtain ⟨hx, hB'⟩ := byts_cons hB
    obtain ⟨hy, _⟩ := byts_cons hB'
    have o1 := or256 0 y (by omega) hy
    have o2 := or256 y x hy hx
    rw [Int.zero_mul, Int.zero_add] at o1
    simp (disch := first | omega | (simp only [List.length_append, List.length_cons, List.length_nil, List.length_map, sgK_len]; omega)) only [go_sem, Nat.reduceAdd, Nat.reduceSub, Nat.reduceMul, Nat.reduceLeDiff, Nat.reduceEqDiff, h80c, Int.reduceSub]
    rw [EL_loop (fun k => ⟨(.one (.ptr 0 0) :: vi 2 :: jk 4 (vi (tb3 0 y (y * 256 + x) k) :: vi (tb3 1 0 (-1) k) :: jk 44 [])), [bS (x :: y :: t)]⟩) 2 ?_ ?_]
    · have hv : numR (x :: y :: t) 2 = (sval [x, y], decide (sz (sval [x, y]) = 2), t) := by rw [numR, if_neg (by simp)]; rfl
      rw [hv]
      simp only [sval]
      by_cases c : 32768 ≤ y * 256 + x
      · have s1 := sizeOf_v (G := G) (B := B) (y * 256 + x - 65536) (by omega)
        simp (disch := first | omega | (simp only [List.length_append, List.length_cons, List.length_nil, List.length_map, sgK_len]; omega)) only [go_sem, Nat.reduceAdd, Nat.reduceSub, Nat.reduceMul, Nat.reduceLeDiff, Nat.reduceEqDiff, h80l0, tb3_2, Int.reduceMul, Int.reduceSub, Int.reduceToNat, Int.reducePow, Nat.reducePow, Int.reduceNeg, c, s1, bC]
      · have s1 := sizeOf_v (G := G) (B := B) (y * 256 + x) (by omega)
        simp (disch := first | omega | (simp only [List.length_append, List.length_cons, List.length_nil, List.length_map, sgK_len]; omega)) only [go_sem, Nat.reduceAdd, Nat.reduceSub, Nat.reduceMul, Nat.reduceLeDiff, Nat.reduceEqDiff, h80l0, tb3_2, Int.reduceMul, Int.reduceSub, Int.reduceToNat, Int.reducePow, Nat.reducePow, Int.reduceNeg, c, s1, bC]
    · rfl
    · intro k hk
      rcases (show k = 0 ∨ k = 1 by omega) with rfl | rfl
      · simp (disch := first | omega | (simp only [List.length_append, List.length_cons, List.length_nil, List.length_map, sgK_len]; omega)) only [go_sem, Nat.reduceAdd, Nat.reduceSub, Nat.reduceMul, Nat.reduceLeDiff, Nat.reduceEqDiff, h80l0, tb3_0, tb3_1, Int.reduceMul, Int.reduceSub, Int.reduceToNat, Int.reducePow, Nat.reducePow, Int.reduceNeg, o1, Int.zero_mul]
      · simp (disch := first | omega | (simp only [List.length_append, List.length_cons, List.length_nil, List.length_map, sgK_len]; omega)) only [go_sem, Nat.reduceAdd, Nat.reduceSub, Nat.reduceMul, Nat.reduceLeDiff, Nat.reduceEqDiff, h80l0, tb3_1, tb3_2, Int.reduceMul, Int.reduceSub, Int.reduceToNat, Int.reducePow, Nat.reducePow, Int.reduceNeg, o2, Int.zero_mul]
theorem number_v (bs : List Int) (hB : Byts bs) (a : Int) (ha : 1 ≤ a ∧ a ≤ 2) : EV G (Tb B) 80 [.one (.ptr 0 0), vi a] [bS bs] = some (.tup [.one (.dc (ci (numR bs a.toNat).1)), .one (bC (numR bs a.toNat).2.1)], [bS (numR bs a.toNat).2.2]) := by
  rcases (show a = 1 ∨ a = 2 by omega) with rfl | rfl
  · exact number1_v bs hB
  · exact number2_v bs hB
theorem byts_sub {l m : List Int} (h : Byts l) (hs : ∀ x ∈ m, x ∈ l) : Byts m := fun b hb => h b (hs b hb)
theorem numR_byts {bs : List Int} (h : Byts bs) (a : Nat) : Byts (numR bs a).2.2 := by
  unfold numR
  split
  · exact h
  · exact byts_sub h (fun x hx => List.mem_of_mem_drop hx)
theorem numR_in {bs : List Int} (h : Byts bs) (a : Nat) : -32768 ≤ (numR bs a).1 ∧ (numR bs a).1 ≤ 32767 := by
  unfold numR
  split
  · simp
  · have h2 : Byts (bs.take a) := byts_sub h (fun x hx => List.mem_of_mem_take hx)
    simp only
    generalize bs.take a = m at h2
    match m, h2 with
    | [], _ => simp [sval]
    | [x], h2 => have := h2 x (by simp); simp only [sval]; split <;> omega
    | [x, y], h2 => have := h2 x (by simp); have := h2 y (by simp); simp only [sval]; split <;> omega
    | x :: y :: z :: w, _ => simp [sval]
theorem numR_len (bs : List Int) (a : Nat) : (numR bs a).2.2.length ≤ bs.length := by
  unfold numR
  split
  · exact Nat.le_refl _
  · simp
set_option maxHeartbeats 1000000 in
theorem run_v (last h : Int) (t : List Int) (hB : Byts (h :: t)) (hl : -1000000000 ≤ last ∧ last ≤ 1000000000) : EV G (Tb B) 64 [.one (.ptr 0 0), vi last] [bS (h :: t)] =
    some (.tup [.agg [.dc (ci (runR last h t).1.s), .dc (ci (runR last h t).1.n)], .one (bC (runR last h t).2.1)], [bS (runR last h t).2.2]) := by
  refine EV_run rfl ?_
  obtain ⟨hh, hB'⟩ := byts_cons hB
  have ha := and15 h hh
  unfold runR
  by_cases c1 : 1 ≤ h % 16 ∧ h % 16 ≤ 2
  · by_cases c2 : h / 16 ≤ 2
    · rw [if_pos ⟨c1, c2⟩]
      have s1 := number_v (G := G) (B := B) t hB' (h % 16) c1
      have k1 := numR_in hB' (h % 16).toNat
      have b1 := numR_byts hB' (h % 16).toNat
      generalize numR t (h % 16).toNat = N1 at s1 k1 b1 ⊢
      obtain ⟨n1, ok1, t1⟩ := N1
      simp only at s1 k1 b1 ⊢
      by_cases c3 : h / 16 = 0
      · rw [if_pos (Or.inr c3)]
        cases ok1
        all_goals simp (disch := first | omega | (simp only [List.length_append, List.length_cons, List.length_nil, List.length_map, sgK_len]; omega)) only [go_sem, Nat.reduceAdd, Nat.reduceSub, Nat.reduceMul, Nat.reduceLeDiff, Nat.reduceEqDiff, h64c, Int.reduceToNat, Int.reducePow, ha, fdiv16, c1, c2, c3, within_v, s1, bC]
      · cases ok1
        · rw [if_pos (Or.inl rfl)]
          simp (disch := first | omega | (simp only [List.length_append, List.length_cons, List.length_nil, List.length_map, sgK_len]; omega)) only [go_sem, Nat.reduceAdd, Nat.reduceSub, Nat.reduceMul, Nat.reduceLeDiff, Nat.reduceEqDiff, h64c, Int.reduceToNat, Int.reducePow, ha, fdiv16, c1, c2, c3, within_v, s1, bC]
        · rw [if_neg (by simp [c3])]
          have s2 := number_v (G := G) (B := B) t1 b1 (h / 16) (by omega)
          have k2 := numR_in b1 (h / 16).toNat
          generalize numR t1 (h / 16).toNat = N2 at s2 k2 ⊢
          obtain ⟨n2, ok2, t2⟩ := N2
          simp only at s2 k2 ⊢
          cases ok2
          all_goals simp (disch := first | omega | (simp only [List.length_append, List.length_cons, List.length_nil, List.length_map, sgK_len]; omega)) only [go_sem, Nat.reduceAdd, Nat.reduceSub, Nat.reduceMul, Nat.reduceLeDiff, Nat.reduceEqDiff, h64c, Int.reduceToNat, Int.reducePow, ha, fdiv16, c1, c2, c3, within_v, s1, s2, bC, isHole_v]
    · rw [if_neg (by omega)]
      simp (disch := first | omega | (simp only [List.length_append, List.length_cons, List.length_nil, List.length_map, sgK_len]; omega)) only [go_sem, Nat.reduceAdd, Nat.reduceSub, Nat.reduceMul, Nat.reduceLeDiff, Nat.reduceEqDiff, h64c, Int.reduceToNat, Int.reducePow, ha, fdiv16, c1, c2, within_v, bC]
  · rw [if_neg (by omega)]
    simp (disch := first | omega | (simp only [List.length_append, List.length_cons, List.length_nil, List.length_map, sgK_len]; omega)) only [go_sem, Nat.reduceAdd, Nat.reduceSub, Nat.reduceMul, Nat.reduceLeDiff, Nat.reduceEqDiff, h64c, Int.reduceToNat, Int.reducePow, ha, fdiv16, c1, within_v, bC]
structure DS where
  bs : List Int
  last : Int
  out : List Run
def dstep (z : DS) : Option DS :=
  match z.bs with
  | [] => none
  | h :: t => if h = 0 then none else if (runR z.last h t).2.1 = true then some ⟨(runR z.last h t).2.2, if (runR z.last h t).1.s = -1 then z.last else (runR z.last h t).1.s, z.out ++ [(runR z.last h t).1]⟩ else none
def dK (s : List Int) : Nat → DS
  | 0 => ⟨s, 0, []⟩
  | k + 1 => (dstep (dK s k)).getD (dK s k)
noncomputable def dEnd (s : List Int) : Nat := ix (fun k => dstep (dK s k) = none) (s.length + 1)
def decE (bs : List Int) : Int := match bs with
  | [] => 3
  | h :: t => if h = 0 ∧ t = [] then 0 else 3
def decZ (z : DS) : List Run × Int := if decE z.bs ≠ 0 then ([], 3) else if (chk z.out).2 ≠ 0 then ([], (chk z.out).2) else (z.out, 0)
noncomputable def decV (s : List Int) : List Run × Int := if (s.length : Int) > 400 then ([], 8) else decZ (dK s (dEnd s))
theorem runR_len (last h : Int) (t : List Int) : (runR last h t).2.2.length ≤ t.length := by
  unfold runR
  split
  · split
    · exact numR_len _ _
    · exact Nat.le_trans (numR_len _ _) (numR_len _ _)
  · exact Nat.le_refl _
theorem runR_byts (last h : Int) {t : List Int} (hB : Byts t) : Byts (runR last h t).2.2 := by
  unfold runR
  split
  · split
    · exact numR_byts hB _
    · exact numR_byts (numR_byts hB _) _
  · exact hB
theorem runR_in (last h : Int) {t : List Int} (hB : Byts t) : (runR last h t).1.s = -1 ∨ (runR last h t).1.s = 0 ∨ (last - 32768 ≤ (runR last h t).1.s ∧ (runR last h t).1.s ≤ last + 32767) := by
  unfold runR
  split
  · split
    · exact .inl rfl
    · have := numR_in (numR_byts hB (h % 16).toNat) (h / 16).toNat
      exact .inr (.inr ⟨by simp only; omega, by simp only; omega⟩)
  · exact .inr (.inl rfl)
theorem dK_ok (s : List Int) (hB : Byts s) : ∀ k, (∀ j, j < k → ¬ dstep (dK s j) = none) → (dK s k).bs.length + k ≤ s.length ∧ (dK s k).out.length = k ∧ (-40000 * (k : Int) ≤ (dK s k).last ∧ (dK s k).last ≤ 40000 * k) ∧ Byts (dK s k).bs := by
  intro k
  induction k with
  | zero => intro _; exact ⟨by simp [dK], rfl, by simp [dK], hB⟩
  | succ k ih =>
    intro h
    obtain ⟨h1, h2, h3, h4⟩ := ih (fun j hj => h j (by omega))
    have h5 := h k (by omega)
    simp only [dK]
    generalize dK s k = z at h1 h2 h3 h4 h5 ⊢
    obtain ⟨bs, last, out⟩ := z
    simp only at h1 h2 h3 h4 h5
    cases bs with
    | nil => exact absurd rfl h5
    | cons h t =>
      obtain ⟨hh, ht⟩ := byts_cons h4
      have l1 := runR_len last h t
      have l2 := runR_byts last h ht
      have l3 := runR_in last h ht
      simp only [dstep] at h5 ⊢
      split
      · rename_i c; rw [if_pos c] at h5; exact absurd rfl h5
      · rename_i c
        rw [if_neg c] at h5
        split
        · simp only [Option.getD_some, List.length_append, List.length_cons, List.length_nil] at h1 ⊢
          refine ⟨by omega, by omega, ?_, l2⟩
          split <;> omega
        · rename_i c'; rw [if_neg c'] at h5; exact absurd rfl h5
theorem dEnd_spec (s : List Int) (hB : Byts s) : dEnd s ≤ s.length ∧ dstep (dK s (dEnd s)) = none ∧ ∀ j, j < dEnd s → ¬ dstep (dK s j) = none := by
  obtain ⟨h1, h2, h3⟩ := ix_spec (fun k => dstep (dK s k) = none) (s.length + 1)
  have h4 := (dK_ok s hB (dEnd s) h3).1
  refine ⟨by omega, ?_, h3⟩
  rcases h2 with h2 | h2
  · exact absurd h4 (by unfold dEnd; omega)
  · exact h2.2
theorem str_cons_ne (h : Int) (t : List Int) : (str (h :: t) = str []) = False := by
  apply eq_false
  intro e
  have := congrArg ByteArray.size e
  simp [str_size] at this
attribute [go_sem] str_cons_ne
set_option maxHeartbeats 1000000 in
theorem decode_v (s : List Int) (hB : Byts s) : EV G (Tb B) 31 [sv s] [] = some (.tup [.one (.dc (.slc ((decV s).1.map Run.e))), .one (.dc (ci (decV s).2))], []) := by
  refine EV_run rfl ?_
  unfold decV
  by_cases c0 : (s.length : Int) > 400
  · rw [if_pos c0]
    simp (disch := first | omega | (simp only [List.length_append, List.length_cons, List.length_nil, List.length_map, sgK_len]; omega)) only [go_sem, Nat.reduceAdd, Nat.reduceSub, Nat.reduceMul, Nat.reduceLeDiff, Nat.reduceEqDiff, h31c, List.map_nil]
  · rw [if_neg c0]
    simp (disch := first | omega | (simp only [List.length_append, List.length_cons, List.length_nil, List.length_map, sgK_len]; omega)) only [go_sem, Nat.reduceAdd, Nat.reduceSub, Nat.reduceMul, Nat.reduceLeDiff, Nat.reduceEqDiff, h31c]
    rw [EL_fst (fun k => ⟨(jk 1 (.one (.ptr 0 0) :: jk 2 (.one (.bld 1 (dK s k).out.length) :: vi (dK s k).last :: jk 39 []))), [bS (dK s k).bs, .arr 0 2 ((dK s k).out.map Run.e)]⟩) (fun k => dstep (dK s k) = none) (s.length + 1) ?_ ?_]
    · obtain ⟨e1, e2, e3⟩ := dEnd_spec s hB
      obtain ⟨g1, g2, g3, g4⟩ := dK_ok s hB _ e3
      rw [show ix (fun k => dstep (dK s k) = none) (s.length + 1) = dEnd s from rfl]
      generalize dK s (dEnd s) = z at *
      obtain ⟨bs, last, out⟩ := z
      simp only at e2 g1 g2 g3 g4 ⊢
      cases bs with
      | nil =>
        rw [show decZ ⟨[], last, out⟩ = ([], 3) from rfl]
        simp (disch := first | omega | (simp only [List.length_append, List.length_cons, List.length_nil, List.length_map, sgK_len]; omega)) only [go_sem, Nat.reduceAdd, Nat.reduceSub, Nat.reduceMul, Nat.reduceLeDiff, Nat.reduceEqDiff, h31l0, str_nil, List.map_nil]
      | cons h t =>
        obtain ⟨hh, ht⟩ := byts_cons g4
        by_cases c : h = 0
        · subst c
          match t with
          | [] =>
            have hl := errs1 out
            by_cases c2 : (chk out).2 = 0
            · rw [c2] at hl
              rw [show decZ ⟨[0], last, out⟩ = (out, 0) by simp [decZ, decE, c2]]
              simp (disch := first | omega | (simp only [List.length_append, List.length_cons, List.length_nil, List.length_map, sgK_len]; omega)) only [go_sem, Nat.reduceAdd, Nat.reduceSub, Nat.reduceMul, Nat.reduceLeDiff, Nat.reduceEqDiff, h31l0, str_nil, errs1_v, hl, take_map_len]
            · rw [show decZ ⟨[0], last, out⟩ = ([], (chk out).2) by simp [decZ, decE, c2]]
              simp (disch := first | omega | (simp only [List.length_append, List.length_cons, List.length_nil, List.length_map, sgK_len]; omega)) only [go_sem, Nat.reduceAdd, Nat.reduceSub, Nat.reduceMul, Nat.reduceLeDiff, Nat.reduceEqDiff, h31l0, str_nil, errs1_v, hl, c2, take_map_len, List.map_nil]
          | x :: t =>
            rw [show decZ ⟨0 :: x :: t, last, out⟩ = ([], 3) by simp [decZ, decE]]
            simp (disch := first | omega | (simp only [List.length_append, List.length_cons, List.length_nil, List.length_map, sgK_len]; omega)) only [go_sem, Nat.reduceAdd, Nat.reduceSub, Nat.reduceMul, Nat.reduceLeDiff, Nat.reduceEqDiff, h31l0, str_nil, List.map_nil]
        · have r1 := run_v (G := G) (B := B) last h t g4 (by omega)
          simp only [dstep, if_neg c] at e2
          rw [show decZ ⟨h :: t, last, out⟩ = ([], 3) by simp [decZ, decE, c]]
          generalize runR last h t = r at r1 e2
          obtain ⟨r, ok, rest⟩ := r
          cases ok
          · simp only at r1
            simp (disch := first | omega | (simp only [List.length_append, List.length_cons, List.length_nil, List.length_map, sgK_len]; omega)) only [go_sem, Nat.reduceAdd, Nat.reduceSub, Nat.reduceMul, Nat.reduceLeDiff, Nat.reduceEqDiff, h31l0, str_nil, List.map_nil, r1, c, bC]
          · simp at e2
    · rfl
    · intro k hk hn
      obtain ⟨g1, g2, g3, g4⟩ := dK_ok s hB k (fun j hj => hn j (by omega))
      have e2 := hn k (Nat.le_refl _)
      rw [show dK s (k + 1) = (dstep (dK s k)).getD (dK s k) from rfl]
      generalize dK s k = z at *
      obtain ⟨bs, last, out⟩ := z
      simp only at e2 g1 g2 g3 g4 ⊢
      cases bs with
      | nil => exact absurd rfl e2
      | cons h t =>
        obtain ⟨hh, ht⟩ := byts_cons g4
        by_cases c : h = 0
        · simp [dstep, c] at e2
        · have r1 := run_v (G := G) (B := B) last h t g4 (by omega)
          simp only [dstep, if_neg c] at e2 ⊢
          generalize runR last h t = r at r1 e2
          obtain ⟨⟨rs, rn⟩, ok, rest⟩ := r
          cases ok
          · simp at e2
          · simp only at r1
            by_cases c2 : rs = -1
            · simp (disch := first | omega | (simp only [List.length_append, List.length_cons, List.length_nil, List.length_map, sgK_len]; omega)) only [go_sem, Nat.reduceAdd, Nat.reduceSub, Nat.reduceMul, Nat.reduceLeDiff, Nat.reduceEqDiff, h31l0, str_nil, r1, c, c2, bC, isHole_v, Option.getD_some, map_snoc, List.length_append]
            · simp (disch := first | omega | (simp only [List.length_append, List.length_cons, List.length_nil, List.length_map, sgK_len]; omega)) only [go_sem, Nat.reduceAdd, Nat.reduceSub, Nat.reduceMul, Nat.reduceLeDiff, Nat.reduceEqDiff, h31l0, str_nil, r1, c, c2, bC, isHole_v, Option.getD_some, map_snoc, List.length_append]
end Go.Proofs.Ytginjcpblgpcoaa
