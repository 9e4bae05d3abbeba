/- Contracts for RunsChecks and RunsHalves; IndexFunc, DeleteFunc and Clone of runs. Conditions: none. -/
import Derived.Test.YtginjcpblgpcoaaVk
import Derived.Test.YtginjcpblgpcoaaNg
namespace Go.Proofs.Ytginjcpblgpcoaa
set_option maxRecDepth 4000
set_option linter.unusedSimpArgs false
set_option linter.unusedVariables false
variable {G : Glob} {B : CallT}
attribute [go_sem] List.getElem?_nil
/-- the runs of which a predicate doesn't hold, moved to the front: how many, and the array, after so many -/
def dlI (p : Run → Bool) (l : List Run) : Nat → Nat
  | 0 => 0
  | j + 1 => if p (l.getD j ⟨0, 0⟩) = true then dlI p l j else dlI p l j + 1
def dlA (p : Run → Bool) (l : List Run) : Nat → List Run
  | 0 => l
  | j + 1 => if p (l.getD j ⟨0, 0⟩) = true then dlA p l j else (dlA p l j).set (dlI p l j) (l.getD j ⟨0, 0⟩)
theorem dlA_len (p : Run → Bool) (l : List Run) : ∀ j, (dlA p l j).length = l.length
  | 0 => rfl
  | j + 1 => by
    rw [dlA]; split
    · exact dlA_len p l j
    · rw [List.length_set]; exact dlA_len p l j
theorem dlI_le (p : Run → Bool) (l : List Run) : ∀ j, dlI p l j ≤ j
  | 0 => Nat.le_refl _
  | j + 1 => by
    have := dlI_le p l j
    rw [dlI]; split <;> omega
theorem dlA_ge (p : Run → Bool) (l : List Run) : ∀ j k, j ≤ k → (dlA p l j)[k]? = l[k]?
  | 0, k, _ => rfl
  | j + 1, k, h => by
    have h1 := dlI_le p l j
    rw [dlA]; split
    · exact dlA_ge p l j k (by omega)
    · rw [List.getElem?_set_ne (by omega)]; exact dlA_ge p l j k (by omega)
theorem dlA_at (p : Run → Bool) (l : List Run) (j : Nat) (h : j < l.length) : (dlA p l j)[j]'(by rw [dlA_len]; exact h) = l[j] := by
  have := dlA_ge p l j j (Nat.le_refl _)
  rw [List.getElem?_eq_getElem (by rw [dlA_len]; exact h), List.getElem?_eq_getElem h] at this
  injection this
theorem take_set_lt {α : Type} (l : List α) (i : Nat) (a : α) (h : i < l.length) : (l.set i a).take (i + 1) = l.take i ++ [a] := by
  rw [List.take_add_one, List.take_set_of_le (Nat.le_refl _), List.getElem?_set_self h]; rfl
theorem dlA_take (p : Run → Bool) (l : List Run) : ∀ j, j ≤ l.length → (dlA p l j).take (dlI p l j) = (l.take j).filter fun r => !p r
  | 0, _ => rfl
  | j + 1, h => by
    have ih := dlA_take p l j (by omega)
    have h1 := dlI_le p l j
    have h2 : l.getD j ⟨0, 0⟩ = l[j] := runAt l j (by omega)
    rw [dlA, dlI, h2, List.take_succ_eq_append_getElem (by omega), List.filter_append]
    split
    · rename_i hp
      rw [ih]; simp [hp]
    · rename_i hp
      rw [take_set_lt _ _ _ (by rw [dlA_len]; omega), ih]
      simp [hp]
theorem dlI_len (p : Run → Bool) (l : List Run) : dlI p l l.length = (l.filter fun r => !p r).length := by
  have := congrArg List.length (dlA_take p l l.length (Nat.le_refl _))
  rw [List.length_take, dlA_len, List.take_length] at this
  have := dlI_le p l l.length
  omega
/-- before the first one nothing moves -/
theorem dl_before (p : Run → Bool) (l : List Run) : ∀ k, k ≤ l.length → (∀ j, j < k → ¬ p (l.getD j ⟨0, 0⟩) = true) → dlI p l k = k ∧ dlA p l k = l
  | 0, _, _ => ⟨rfl, rfl⟩
  | k + 1, h, hn => by
    obtain ⟨h1, h2⟩ := dl_before p l k (by omega) (fun j hj => hn j (by omega))
    have h3 := hn k (by omega)
    rw [dlI, dlA, if_neg h3, if_neg h3, h1, h2, runAt l k (by omega)]
    exact ⟨rfl, List.set_getElem_self _⟩
theorem indexFunc_v (p : Run → Bool) (f : Nat) (hf : ∀ r : Run, EV G (Tb B) f [r.v] [] = some (vb (p r), [])) (l : List Run) (hl : l.length ≤ 1000000) :
    EV G (Tb B) 83 [runsV l, .one (.fn f [])] [] = some (vi (if ix (fun k => p (l.getD k ⟨0, 0⟩) = true) l.length = l.length then -1 else (ix (fun k => p (l.getD k ⟨0, 0⟩) = true) l.length : Nat)), []) := by
  refine EV_run rfl ?_
  simp (disch := omega) only [go_sem, Nat.reduceAdd, Nat.reduceSub, Nat.reduceMul, Nat.reduceLeDiff, Nat.reduceEqDiff, h83c, List.length_map]
  rw [EL_fst (fun k => ⟨(runsV l :: .one (.fn f []) :: jk 5 (vi l.length :: vi k :: jk 10 [])), []⟩) (fun k => p (l.getD k ⟨0, 0⟩) = true) l.length ?_ ?_]
  rotate_left
  · rfl
  · intro k hk hn
    have h1 := hn k (Nat.le_refl _)
    have h2 := hf l[k]
    rw [runAt l k hk] at h1
    simp (disch := omega) only [go_sem, Nat.reduceAdd, Nat.reduceSub, Nat.reduceMul, Nat.reduceLeDiff, Nat.reduceEqDiff, h83l0, List.length_map, Run.e, h2, h1]
  obtain ⟨hk, hp, hn⟩ := ix_spec (fun k => p (l.getD k ⟨0, 0⟩) = true) l.length
  generalize ix (fun k => p (l.getD k ⟨0, 0⟩) = true) l.length = k at *
  rcases hp with rfl | ⟨hk', hp⟩
  · simp (disch := omega) only [go_sem, Nat.reduceAdd, Nat.reduceSub, Nat.reduceMul, Nat.reduceLeDiff, Nat.reduceEqDiff, h83l0, List.length_map]
  · have h2 := hf l[k]
    rw [runAt l k hk'] at hp
    rw [if_neg (by omega)]
    simp (disch := omega) only [go_sem, Nat.reduceAdd, Nat.reduceSub, Nat.reduceMul, Nat.reduceLeDiff, Nat.reduceEqDiff, h83l0, List.length_map, Run.e, h2, hp]
theorem take_all {α β : Type} (f : α → β) (l : List α) : (l.map f).take l.length = l.map f := by rw [← List.map_take, List.take_length]
/-- an array after the end of it was cleared -/
theorem clr_front (A : List Run) (i : Nat) (hi : i ≤ A.length) (z : List DC) : clrE (A.map Run.e) i (A.length - i) z = (A.take i).map Run.e ++ List.replicate (A.length - i) z := by
  unfold clrE
  rw [show i + (A.length - i) = (A.map Run.e).length by simp; omega, List.drop_length, List.append_nil, List.map_take]
theorem deleteFunc_v (p : Run → Bool) (f : Nat) (hf : ∀ r : Run, EV G (Tb B) f [r.v] [] = some (vb (p r), [])) (l : List Run) (hl : l.length ≤ 1000000) :
    EV G (Tb B) 73 [.one (.bld 0 l.length), .one (.fn f [])] [.arr 0 2 (l.map Run.e)] =
      some (.one (.bld 0 (l.filter fun r => !p r).length), [.arr 0 2 ((l.filter fun r => !p r).map Run.e ++ List.replicate (l.length - (l.filter fun r => !p r).length) [ci 0, ci 0])]) := by
  refine EV_run rfl ?_
  have hix := indexFunc_v (G := G) (B := B) p f hf l hl
  obtain ⟨hk, hp, hn⟩ := ix_spec (fun k => p (l.getD k ⟨0, 0⟩) = true) l.length
  generalize ix (fun k => p (l.getD k ⟨0, 0⟩) = true) l.length = k at *
  rcases hp with rfl | ⟨hk', hp⟩
  · have hF : (l.filter fun r => !p r) = l := by
      rw [List.filter_eq_self]
      intro r hr
      obtain ⟨j, hj, rfl⟩ := List.mem_iff_getElem.1 hr
      have := hn j hj
      rw [runAt l j hj] at this
      simpa using this
    rw [hF]
    rw [if_pos rfl] at hix
    simp (disch := omega) only [go_sem, Nat.reduceAdd, Nat.reduceSub, Nat.reduceMul, Nat.reduceLeDiff, Nat.reduceEqDiff, h73c, List.length_map, take_all, hix]
    simp
  · rw [if_neg (by omega)] at hix
    obtain ⟨h1, h2⟩ := dl_before p l k hk hn
    have h3 : dlI p l (k + 1) = k ∧ dlA p l (k + 1) = l := by rw [dlI, dlA, if_pos hp, if_pos hp]; exact ⟨h1, h2⟩
    simp (disch := omega) only [go_sem, Nat.reduceAdd, Nat.reduceSub, Nat.reduceMul, Nat.reduceLeDiff, Nat.reduceEqDiff, h73c, List.length_map, take_all, hix]
    rw [EL_loop (fun j => ⟨(.one (.bld 0 l.length) :: .one (.fn f []) :: jk 3 (vi (dlI p l (k + 1 + j) : Nat) :: vi (k + 1 + j : Nat) :: jk 35 [])), [.arr 0 2 ((dlA p l (k + 1 + j)).map Run.e)]⟩) (l.length - (k + 1)) ?_ ?_]
    rotate_left
    · simp only [Nat.add_zero, h3.1, h3.2, Int.natCast_add, Int.natCast_one]
      rfl
    · intro j hj
      have hq0 : k + 1 + j < l.length := by omega
      have hA := dlA_len p l (k + 1 + j)
      have hI := dlI_le p l (k + 1 + j)
      have hg : (dlA p l (k + 1 + j))[k + 1 + j]? = some l[k + 1 + j] := by rw [dlA_ge p l _ _ (Nat.le_refl _), List.getElem?_eq_getElem hq0]
      have hfr := hf l[k + 1 + j]
      rw [show k + 1 + (j + 1) = k + 1 + j + 1 by omega, dlI, dlA, runAt l _ hq0]
      generalize dlA p l (k + 1 + j) = A at *
      generalize dlI p l (k + 1 + j) = i at *
      generalize k + 1 + j = q at *
      generalize l[q] = r at *
      cases hq : p r
      · rw [hq] at hfr
        have hset : (A.set i r).map Run.e = (A.map Run.e).set i [.raw (.int .i64 r.s), .raw (.int .i64 r.n)] := List.map_set
        simp (disch := omega) only [go_sem, Nat.reduceAdd, Nat.reduceSub, Nat.reduceMul, Nat.reduceLeDiff, Nat.reduceEqDiff, h73l0, List.length_map, Run.e, hfr, hg, hset]
      · rw [hq] at hfr
        simp (disch := omega) only [go_sem, Nat.reduceAdd, Nat.reduceSub, Nat.reduceMul, Nat.reduceLeDiff, Nat.reduceEqDiff, h73l0, List.length_map, Run.e, hfr, hg]
    · have hA := dlA_len p l l.length
      have hI := dlI_le p l l.length
      have hT := dlA_take p l l.length (Nat.le_refl _)
      have hL := dlI_len p l
      rw [show k + 1 + (l.length - (k + 1)) = l.length by omega]
      have hc := clr_front (dlA p l l.length) (dlI p l l.length) (by omega) [ci 0, ci 0]
      rw [hT, List.take_length, hA] at hc
      rw [← hL]
      generalize dlA p l l.length = A at *
      generalize dlI p l l.length = i at *
      by_cases h0 : i = 0
      · subst h0
        rw [Nat.sub_zero] at hc
        have hlen : ((l.filter fun r => !p r).map Run.e ++ List.replicate l.length [ci 0, ci 0]).length = l.length := by simp [← hL]
        simp (disch := omega) only [go_sem, Nat.reduceAdd, Nat.reduceSub, Nat.reduceMul, Nat.reduceLeDiff, Nat.reduceEqDiff, h73l0, List.length_map, Option.map_none, hc, hlen, Nat.sub_zero]
      · have hlen : ((l.filter fun r => !p r).map Run.e ++ List.replicate (l.length - i) [ci 0, ci 0]).length = l.length := by simp [← hL]; omega
        simp (disch := omega) only [go_sem, Nat.reduceAdd, Nat.reduceSub, Nat.reduceMul, Nat.reduceLeDiff, Nat.reduceEqDiff, h73l0, List.length_map, Option.map_none, hc, hlen]
/-- the base of the table: the examples hold, and Clone -/
def awK : List AV → List AObj → Option (AV × List AObj)
  | [], [] => some (vb true, [])
  | _, _ => none
def baseD : CallT := fun f args hp => if f = 9 then awK args hp else cloneB [(74, 2, 16)] f args hp
theorem awakeD_v : EV G (Tb baseD) 9 [] [] = some (vb true, []) := EV_base rfl rfl
theorem clone_v (l : List Run) (hl : l.length ≤ 1000000) : EV G (Tb baseD) 74 [runsV l] [] = some (.one (.bld 0 l.length), [.arr 0 2 (l.map Run.e)]) := by
  refine EV_base rfl ?_
  show (if allLen 2 (l.map Run.e) = true ∧ (l.map Run.e).length * 16 ≤ 140737488355328 then some (AV.one (.bld 0 (l.map Run.e).length), [AObj.arr 0 2 (l.map Run.e)]) else none) = _
  rw [if_pos ⟨all_run l, by rw [List.length_map]; omega⟩, List.length_map]
theorem cloneD_ok : CallOK Try.prog G (cloneB [(74, 2, 16)]) := cloneB_ok [(74, 2, 16)] (fun e he => by
  simp only [List.mem_singleton] at he
  subst he
  exact ⟨by kernel_rfl, _, [Zi 0, Zi 0], Try.func74, Try.ntmps74, h74_ok, r74_ok, by decide⟩)
/-- runs joined, or the error -/
def canonE (l : List Run) : Int := if l.length > 64 then 8 else if ∀ r ∈ l, rangeE r.s r.n = 0 then resE l else 2
theorem canonE_pos {l : List Run} (h : ¬ l.length > 64) (hr : ∀ r ∈ l, rangeE r.s r.n = 0) : canonE l = resE l := by rw [canonE, if_neg h, if_pos hr]
theorem canonE_neg {l : List Run} (h : ¬ l.length > 64) {k : Nat} (hk : k < l.length) (hr : rangeE l[k].s l[k].n ≠ 0) : canonE l = 2 := by
  rw [canonE, if_neg h, if_neg (fun hh => hr (hh _ (List.getElem_mem hk)))]
def canonV (l : List Run) : List Run × Int := if canonE l = 0 then (addL [] l, 0) else ([], canonE l)
theorem rg_fine {l : List Run} (h : ¬ l.length > 64) (hr : ∀ r ∈ l, rangeE r.s r.n = 0) : Fine l := by
  have hs : ∀ l : List Run, (∀ r ∈ l, rangeE r.s r.n = 0) → lenR l ≤ 4096 * l.length := by
    intro l
    induction l with
    | nil => intro _; simp [lenR]
    | cons r l ih =>
      intro h
      have h1 := ih (fun q hq => h q (List.mem_cons_of_mem _ hq))
      have h2 := rE_n (h r List.mem_cons_self)
      have e1 : lenR (r :: l) = r.n + lenR l := by simp [lenR]
      rw [e1, List.length_cons]; omega
  have := hs l hr
  exact ⟨fun q hq => by have := rE_n (hr q hq); omega, by omega, by omega⟩
theorem rg_at (l : List Run) (k : Nat) (hk : k < l.length) : rangeE (l.getD k ⟨0, 0⟩).s (l.getD k ⟨0, 0⟩).n = rangeE l[k].s l[k].n := by rw [runAt l k hk]
theorem rg_of (l : List Run) (h : ∀ j, j < l.length → ¬ rangeE (l.getD j ⟨0, 0⟩).s (l.getD j ⟨0, 0⟩).n ≠ 0) : ∀ r ∈ l, rangeE r.s r.n = 0 := by
  intro r hr
  obtain ⟨j, hj, rfl⟩ := List.mem_iff_getElem.1 hr
  have := h j hj
  rw [rg_at l j hj] at this
  exact Classical.not_not.1 this
theorem canonErr_v (l : List Run) : EV G (Tb B) 40 [runsV l] [] = some (vi (canonE l), []) := by
  refine EV_run rfl ?_
  by_cases h : l.length > 64
  · rw [canonE, if_pos h]
    simp (disch := omega) only [go_sem, Nat.reduceAdd, Nat.reduceSub, Nat.reduceMul, Nat.reduceLeDiff, Nat.reduceEqDiff, h40c, List.length_map]
  · simp (disch := omega) only [go_sem, Nat.reduceAdd, Nat.reduceSub, Nat.reduceMul, Nat.reduceLeDiff, Nat.reduceEqDiff, h40c, List.length_map]
    rw [EL_fst (fun k => ⟨(runsV l :: jk 2 (vi k :: jk 17 [])), []⟩) (fun k => rangeE (l.getD k ⟨0, 0⟩).s (l.getD k ⟨0, 0⟩).n ≠ 0) l.length ?_ ?_]
    rotate_left
    · rfl
    · intro k hk hn
      have h1 := hn k (Nat.le_refl _)
      rw [rg_at l k hk] at h1
      have h1 := Classical.not_not.1 h1
      simp (disch := omega) only [go_sem, Nat.reduceAdd, Nat.reduceSub, Nat.reduceMul, Nat.reduceLeDiff, Nat.reduceEqDiff, h40l0, List.length_map, Run.e, isRun_v, h1]
    obtain ⟨hk, hp, hn⟩ := ix_spec (fun k => rangeE (l.getD k ⟨0, 0⟩).s (l.getD k ⟨0, 0⟩).n ≠ 0) l.length
    generalize ix (fun k => rangeE (l.getD k ⟨0, 0⟩).s (l.getD k ⟨0, 0⟩).n ≠ 0) l.length = k at *
    rcases hp with rfl | ⟨hk', hp⟩
    · have hr := rg_of l hn
      rw [canonE_pos h hr]
      have hR := resE_v (G := G) (B := B) l (rg_fine h hr) (by omega)
      simp (disch := omega) only [go_sem, Nat.reduceAdd, Nat.reduceSub, Nat.reduceMul, Nat.reduceLeDiff, Nat.reduceEqDiff, h40l0, List.length_map, hR]
    · rw [rg_at l k hk'] at hp
      rw [canonE_neg h hk' hp]
      simp (disch := omega) only [go_sem, Nat.reduceAdd, Nat.reduceSub, Nat.reduceMul, Nat.reduceLeDiff, Nat.reduceEqDiff, h40l0, List.length_map, Run.e, isRun_v, hp]
theorem canonical_v (l : List Run) : EV G (Tb B) 35 [runsV l] [] = some (.tup [.one (.dc (.slc ((canonV l).1.map Run.e))), .one (.dc (ci (canonV l).2))], []) := by
  refine EV_run rfl ?_
  by_cases h : l.length > 64
  · have hV : canonV l = ([], 8) := by rw [canonV, canonE, if_pos h]; rfl
    rw [hV]
    simp (disch := omega) only [go_sem, Nat.reduceAdd, Nat.reduceSub, Nat.reduceMul, Nat.reduceLeDiff, Nat.reduceEqDiff, h35c, List.length_map]
  · simp (disch := omega) only [go_sem, Nat.reduceAdd, Nat.reduceSub, Nat.reduceMul, Nat.reduceLeDiff, Nat.reduceEqDiff, h35c, List.length_map]
    rw [EL_fst (fun k => ⟨(runsV l :: jk 10 (runsV l :: vi l.length :: vi k :: jk 14 [])), []⟩) (fun k => rangeE (l.getD k ⟨0, 0⟩).s (l.getD k ⟨0, 0⟩).n ≠ 0) l.length ?_ ?_]
    rotate_left
    · rfl
    · intro k hk hn
      have h1 := hn k (Nat.le_refl _)
      rw [rg_at l k hk] at h1
      have h1 := Classical.not_not.1 h1
      simp (disch := omega) only [go_sem, Nat.reduceAdd, Nat.reduceSub, Nat.reduceMul, Nat.reduceLeDiff, Nat.reduceEqDiff, h35l0, List.length_map, Run.e, rangeErr_v, h1]
    obtain ⟨hk, hp, hn⟩ := ix_spec (fun k => rangeE (l.getD k ⟨0, 0⟩).s (l.getD k ⟨0, 0⟩).n ≠ 0) l.length
    generalize ix (fun k => rangeE (l.getD k ⟨0, 0⟩).s (l.getD k ⟨0, 0⟩).n ≠ 0) l.length = k at *
    rcases hp with rfl | ⟨hk', hp⟩
    · have hr := rg_of l hn
      have hF := rg_fine h hr
      have hA := addAll_v (G := G) (B := B) [] l Fine.nil hF
      have hvl := rE_vol hr
      have hD := done_v (G := G) (B := B) (addL [] l) (addL_vol (by simp) (fun q hq => (hvl q hq).1)) hF.add.len
      have hE := done_res hr hF
      rw [hE] at hD
      unfold objsD at hD
      rw [hE] at hD
      rw [canonV, canonE_pos h hr]
      simp only [List.length_nil, List.map_nil] at hA
      by_cases h0 : resE l = 0
      all_goals simp only [h0, if_true, if_false] at hD ⊢
      all_goals simp (disch := omega) only [go_sem, Nat.reduceAdd, Nat.reduceSub, Nat.reduceMul, Nat.reduceLeDiff, Nat.reduceEqDiff, h35l0, List.length_map, hA, hD, h0]
    · rw [rg_at l k hk'] at hp
      have hV : canonV l = ([], 2) := by rw [canonV, canonE_neg h hk' hp]; rfl
      have h2 : rangeE l[k].s l[k].n = 2 := by rcases rangeE_two l[k].s l[k].n with h | h; exact absurd h hp; exact h
      rw [hV]
      simp (disch := omega) only [go_sem, Nat.reduceAdd, Nat.reduceSub, Nat.reduceMul, Nat.reduceLeDiff, Nat.reduceEqDiff, h35l0, List.length_map, Run.e, rangeErr_v, h2]
theorem lengthOf_v (l : List Run) (hl : l.length ≤ 1000000) : EV G (Tb B) 36 [runsV l] [] = some (.tup [.one (.dc (ci (if (chk l).2 = 0 then lenR l else 0))), .one (.dc (ci (chk l).2))], []) := by
  refine EV_run rfl ?_
  have hE := errs1 l
  by_cases h : (chk l).2 = 0
  · have hw : lenW l = lenR l := lenW_chk h
    simp (disch := omega) only [go_sem, Nat.reduceAdd, Nat.reduceSub, Nat.reduceMul, Nat.reduceLeDiff, Nat.reduceEqDiff, h36c, errs1_v, hE, h, length_v, hw]
  · simp (disch := omega) only [go_sem, Nat.reduceAdd, Nat.reduceSub, Nat.reduceMul, Nat.reduceLeDiff, Nat.reduceEqDiff, h36c, errs1_v, hE, h]
/-- the clusters in no hole -/
def allocR (l : List Run) : Int := lenR (l.filter fun r => !decide (r.s = -1))
theorem allocR_snoc (l : List Run) (k : Nat) (hk : k < l.length) : allocR (l.take (k + 1)) = if l[k].s = -1 then allocR (l.take k) else allocR (l.take k) + l[k].n := by
  rw [List.take_succ_eq_append_getElem hk, allocR, List.filter_append, lenR_app]
  by_cases h : l[k].s = -1
  · simp [h, allocR, lenR]
  · simp [h, allocR, lenR]
theorem allocR_bd {l : List Run} (h : ∀ r ∈ l, 0 ≤ r.n) (k : Nat) : 0 ≤ allocR (l.take k) ∧ allocR (l.take k) ≤ lenR l := by
  have key : ∀ l : List Run, (∀ r ∈ l, 0 ≤ r.n) → 0 ≤ allocR l ∧ allocR l ≤ lenR l := by
    intro l
    induction l with
    | nil => intro _; simp [allocR, lenR]
    | cons r l ih =>
      intro h
      have h1 := ih (fun q hq => h q (List.mem_cons_of_mem _ hq))
      have h2 := h r List.mem_cons_self
      have e1 : lenR (r :: l) = r.n + lenR l := by simp [lenR]
      by_cases hs : r.s = -1
      · have e2 : allocR (r :: l) = allocR l := by simp [allocR, hs]
        omega
      · have e2 : allocR (r :: l) = r.n + allocR l := by simp [allocR, hs, lenR]
        omega
  have h1 := key (l.take k) (fun r hr => h r (List.mem_of_mem_take hr))
  have h2 := lenR_le_take l k h
  omega
theorem allocated_r (l : List Run) (h : (chk l).2 = 0) : EV G (Tb B) 41 [runsV l] [] = some (vi (allocR l), []) := by
  refine EV_run rfl ?_
  have hl := chk_len h
  have hC := lenC h
  have hn : ∀ r ∈ l, 0 ≤ r.n := fun r hr => ((chk_fine h).el r hr).2.2
  simp (disch := omega) only [go_sem, Nat.reduceAdd, Nat.reduceSub, Nat.reduceMul, Nat.reduceLeDiff, Nat.reduceEqDiff, h41c, List.length_map]
  rw [EL_loop (fun k => ⟨(runsV l :: jk 2 (vi (allocR (l.take k)) :: vi k :: jk 20 [])), []⟩) l.length ?_ ?_]
  · simp (disch := omega) only [go_sem, Nat.reduceAdd, Nat.reduceSub, Nat.reduceMul, Nat.reduceLeDiff, Nat.reduceEqDiff, h41l0, List.length_map, List.take_length]
  · rfl
  · intro k hk
    have hb := allocR_bd hn k
    have h1 := rE_n (chk_rg h l[k] (List.getElem_mem hk))
    rw [allocR_snoc l k hk]
    by_cases hs : l[k].s = -1
    all_goals simp (disch := omega) only [go_sem, Nat.reduceAdd, Nat.reduceSub, Nat.reduceMul, Nat.reduceLeDiff, Nat.reduceEqDiff, h41l0, List.length_map, Run.e, hs]
theorem isHole_r (r : Run) : EV G (Tb B) 49 [r.v] [] = some (vb (decide (r.s = -1)), []) := isHole_v r.s r.n
theorem allocatedIn_v (l : List Run) (hl : l.length ≤ 1000000) : EV G (Tb baseD) 37 [runsV l] [] = some (.tup [.one (.dc (ci (if (chk l).2 = 0 then allocR l else 0))), .one (.dc (ci (chk l).2))], []) := by
  refine EV_run rfl ?_
  have hE := errs1 l
  by_cases h : (chk l).2 = 0
  · have hD := deleteFunc_v (G := G) (B := baseD) (fun r => decide (r.s = -1)) 49 isHole_r l hl
    have hL := length_v (G := G) (B := baseD) (l.filter fun r => !decide (r.s = -1)) (by have := List.length_filter_le (fun r : Run => !decide (r.s = -1)) l; omega)
    have hw : lenW (l.filter fun r => !decide (r.s = -1)) = allocR l := lenW_eq _ (fun r hr => ((chk_fine h).el r (List.mem_filter.1 hr).1).2.2) (by
      have := (allocR_bd (l := l) (fun r hr => ((chk_fine h).el r hr).2.2) l.length).2
      rw [List.take_length] at this
      have := lenC h
      change allocR l ≤ _
      omega)
    have hT : ((l.filter fun r => !decide (r.s = -1)).map Run.e ++ List.replicate (l.length - (l.filter fun r => !decide (r.s = -1)).length) [ci 0, ci 0]).take (l.filter fun r => !decide (r.s = -1)).length = (l.filter fun r => !decide (r.s = -1)).map Run.e := by
      rw [List.take_left' (by simp)]
    rw [hw] at hL
    have hlen : (l.filter fun r => !decide (r.s = -1)).length ≤ ((l.filter fun r => !decide (r.s = -1)).map Run.e ++ List.replicate (l.length - (l.filter fun r => !decide (r.s = -1)).length) [ci 0, ci 0]).length := by simp
    generalize (l.filter fun r => !decide (r.s = -1)) = L at hD hL hT hlen
    simp (disch := omega) only [go_sem, Nat.reduceAdd, Nat.reduceSub, Nat.reduceMul, Nat.reduceLeDiff, Nat.reduceEqDiff, h37c, errs1_v, hE, h, clone_v, hD, hL, hT, hlen]
  · simp (disch := omega) only [go_sem, Nat.reduceAdd, Nat.reduceSub, Nat.reduceMul, Nat.reduceLeDiff, Nat.reduceEqDiff, h37c, errs1_v, hE, h]
theorem extentsOf_v (l : List Run) : EV G (Tb B) 38 [runsV l] [] = some (.tup [.one (.dc (.slc ((if (chk l).2 = 0 then fromC (extC l [] 512) else []).map Run.e))), .one (.dc (ci (chk l).2))], []) := by
  refine EV_run rfl ?_
  have hE := errs1 l
  by_cases h : (chk l).2 = 0
  · have hl := chk_len h
    have hv : ∀ r ∈ l, Vol r := fun r hr => (chk_vol h r hr).1
    have hA := takeAll_v (G := G) (B := B) U0 l U0_len hv (by omega)
    have lA : (intoL U0 l).length = 512 := by rw [intoL_len]; exact U0_len
    have hX := extents_v (G := G) (B := B) (intoL U0 l) lA
    have hx : exR (intoL U0 l) 512 = fromC (extC l [] 512) := by
      refine exR_from _ l [] 512 (fun j hj => ?_)
      rw [intoL_getD_vol U0 l U0_len hv, U0_getD, Bool.eq_iff_iff, decide_eq_true_eq, mem_cl hv]
      simp [clR]
    rw [hx] at hX
    simp (disch := omega) only [go_sem, Nat.reduceAdd, Nat.reduceSub, Nat.reduceMul, Nat.reduceLeDiff, Nat.reduceEqDiff, h38c, errs1_v, hE, h, hA, hX, List.map_replicate, U0_box]
  · simp (disch := omega) only [go_sem, Nat.reduceAdd, Nat.reduceSub, Nat.reduceMul, Nat.reduceLeDiff, Nat.reduceEqDiff, h38c, errs1_v, hE, h]
theorem sameEq (l : List Run) (hl : l.length ≤ 1000000) : EV G (Tb B) 19 [runsV l, vi 0, runsV l, vi 0] [] = some (vb true, []) := by
  rw [same_v l 0 l 0 hl]; simp
theorem sameNN (e c : Int) : EV G (Tb B) 19 [vl [], vi e, vl [], vi c] [] = some (vb (decide (e = c)), []) := by
  have := same_v (G := G) (B := B) [] e [] c (by simp)
  rw [show runsV [] = vl [] from rfl] at this
  rw [this]
  by_cases h : e = c
  · by_cases hc : c = 0 <;> simp [h, hc]
  · simp [h]
theorem addL_length (l R : List Run) : (addL R l).length ≤ R.length + l.length := by
  induction l generalizing R with
  | nil => exact Nat.le_refl _
  | cons r l ih => have := ih (addR R r); have := addR_length R r; simp only [List.length_cons]; show (addL (addR R r) l).length ≤ _; omega
theorem fromC_le (c : List Int) : (fromC c).length ≤ c.length := by
  have := addL_length (units c) []
  simpa [units, fromC] using this
end Go.Proofs.Ytginjcpblgpcoaa
