/- Extents. Conditions: none. -/
import Derived.Test.YtginjcpblgpcoaaBp
namespace Go.Proofs.Ytginjcpblgpcoaa
set_option maxRecDepth 4000
set_option linter.unusedSimpArgs false
set_option linter.unusedVariables false
attribute [local irreducible] AW WR Gh AC AWL
variable {G : Glob}
attribute [local go_sem] rn Run.v Run.e runsV
theorem AC.frzAt {P : Program} {f : FuncId} {args : List AV} {objs : List AObj} {R Q : AV → List AObj → Prop} (id : Nat) (h : AC P G f args objs R)
    (hR : ∀ av o, R av o → ∃ cap size es, hpGet o id = .arr cap size es ∧ Q (killV (· == id) (frzV id es av)) ((o.map fun x => killO (· == id) (frzO id es x)).set id .dead)) : AC P G f args objs Q := by
  refine h.gh (fun a o ho hl => ?_)
  obtain ⟨cap, size, es, h1, h2⟩ := hR a o ho
  refine ⟨_, _, Gh.freeze (k := objs.length) («as» := ⟨[a], o⟩) h1, ?_, h2⟩
  simp only [List.length_set, List.length_map]; exact hl
/-- the clusters that are noted, as runs -/
def exR (U : List Bool) : Nat → List Run
  | 0 => []
  | k + 1 => if U.getD k false then addR (exR U k) ⟨k, 1⟩ else exR U k
theorem addR_mem {R : List Run} {r : Run} (hr : -1 ≤ r.s ∧ r.s ≤ 1000 ∧ 0 ≤ r.n) (h : ∀ q ∈ R, -1 ≤ q.s ∧ q.s ≤ 1000 ∧ 0 ≤ q.n) : ∀ q ∈ addR R r, -1 ≤ q.s ∧ q.s ≤ 1000 ∧ 0 ≤ q.n := by
  rcases List.eq_nil_or_concat R with rfl | ⟨R', q, rfl⟩
  · rw [addR_nil]; simpa using hr
  · rw [List.concat_eq_append] at *
    rw [addR_snoc]
    have hq := h q (by simp)
    intro p hp
    split at hp
    · rcases List.mem_append.1 hp with h1 | h1
      · exact h p (by simp [h1])
      · have : p = ⟨q.s, q.n + r.n⟩ := by simpa using h1
        subst this; simp only; omega
    · rcases List.mem_append.1 hp with h1 | h1
      · exact h p h1
      · have : p = r := by simpa using h1
        subst this; exact hr
theorem addR_length (R : List Run) (r : Run) : (addR R r).length ≤ R.length + 1 := by
  rcases List.eq_nil_or_concat R with rfl | ⟨R', q, rfl⟩
  · simp [addR]
  · rw [List.concat_eq_append, addR_snoc]; split <;> simp
theorem exR_good (U : List Bool) (k : Nat) (hk : k ≤ 512) : Good (exR U k) := by
  have h : (∀ q ∈ exR U k, -1 ≤ q.s ∧ q.s ≤ 1000 ∧ 0 ≤ q.n) ∧ lenR (exR U k) ≤ k ∧ (exR U k).length ≤ k := by
    induction k with
    | zero => simp [exR, lenR]
    | succ k ih =>
      obtain ⟨h1, h2, h3⟩ := ih (by omega)
      unfold exR
      split
      · refine ⟨addR_mem (by simp only; omega) h1, ?_, ?_⟩
        · rw [addR_len]; simp only; omega
        · have := addR_length (exR U k) ⟨k, 1⟩; omega
      · exact ⟨h1, by omega, by omega⟩
  exact ⟨h.1, by omega, by omega⟩
theorem getU (U : List Bool) (hU : U.length = 512) (k : Nat) (hk : k < 512) : (U.map bC).drop k = bC (U.getD k false) :: (U.map bC).drop (k + 1) := by
  rw [List.drop_eq_getElem_cons (by simpa [hU] using hk)]
  simp [List.getD_eq_getElem?_getD, List.getElem?_eq_getElem (show k < U.length by omega)]
theorem killM2 (p : Nat → Bool) (U : List Bool) : U.map (killC p ∘ bC) = U.map bC := by
  congr 1
theorem frzO_bx (id : Nat) (es : List (List DC)) (U : List Bool) : frzO id es (bx U) = bx U := by
  simp only [frzO, bx, List.map_map]; congr 1
theorem extents_q (U : List Bool) (hU : U.length = 512) : AC Try.prog G 56 [.one (.ptr 0 0)] [bx U] fun av os => av = vl ((exR U 512).map Run.e) ∧ os = [bx U] := by
  refine AC.drop ?_
  refine AC.frzAt 2 (R := fun av os => ∃ cap, av = .one (.bld 2 (exR U 512).length) ∧ os = [bx U, .box [.bld 2 (exR U 512).length], .arr cap 2 ((exR U 512).map Run.e)]) ?_ ?_
  · (refine AC.of_codeJ Try.func56 Try.ntmps56 c56_ok r56_ok ?_; unfold c56; simp only [List.length_cons, List.length_nil, List.cons_append, List.nil_append, junks, Nat.reduceAdd, Nat.reduceSub])
    repeat' (first | (refine AW.sreg ?_) | (refine AW.reg ?_) | (refine AW.seqv ?_) | (refine AW.blockv ?_) | (refine AW.sdrawn ?_) | (refine AW.drawnv ?_) | (show WR _ _ _ (⟨_, _, none⟩ :: _) _ _; refine WR.x1 rfl rfl (by (try simp (disch := omega) only [go_sem]); first | done | with_reducible rfl) ?_) | (show AWL _ _ _ _ ((_, ⟨_, _, none⟩) :: _) _; refine WD.x1 rfl rfl (by (try simp (disch := omega) only [go_sem]); first | done | with_reducible rfl) ?_) | (refine WR.nil ?_; try dsimp only) | (refine WD.nil ?_; try dsimp only) | (refine AW.skip ?_) | (refine AW.ret ?_) | (refine SeqQ.n ?_) | (refine SeqQ.r ?_) | (refine AW.exit ?_) | (refine SeqQ.e ?_) | (refine BlkQ.n ?_) | (refine BlkQ.r ?_) | (refine BlkQ.e ?_) | (refine BlkQ.o (by decide) ?_) | (refine RndQ.r ?_) | (refine RndQ.e ?_) | (first | show _ = _ | show gOK _ _ _ | (intro _; show _ = _)); ((try simp (disch := omega) only [go_sem]); first | done | with_reducible rfl))
    refine AW.ghost (Gh.nilB (id := 1) (j := 0) 2 rfl rfl) ?_
    simp only [List.set_cons_succ, List.set_cons_zero, List.cons_append, List.nil_append, List.length_cons, List.length_nil, Nat.reduceAdd]
    repeat' (first | (refine AW.sreg ?_) | (refine AW.reg ?_) | (refine AW.seqv ?_) | (refine AW.blockv ?_) | (refine AW.sdrawn ?_) | (refine AW.drawnv ?_) | (show WR _ _ _ (⟨_, _, none⟩ :: _) _ _; refine WR.x1 rfl rfl (by (try simp (disch := omega) only [go_sem]); first | done | with_reducible rfl) ?_) | (show AWL _ _ _ _ ((_, ⟨_, _, none⟩) :: _) _; refine WD.x1 rfl rfl (by (try simp (disch := omega) only [go_sem]); first | done | with_reducible rfl) ?_) | (refine WR.nil ?_; try dsimp only) | (refine WD.nil ?_; try dsimp only) | (refine AW.skip ?_) | (refine AW.ret ?_) | (refine SeqQ.n ?_) | (refine SeqQ.r ?_) | (refine AW.exit ?_) | (refine SeqQ.e ?_) | (refine BlkQ.n ?_) | (refine BlkQ.r ?_) | (refine BlkQ.e ?_) | (refine BlkQ.o (by decide) ?_) | (refine RndQ.r ?_) | (refine RndQ.e ?_) | (first | show _ = _ | show gOK _ _ _ | (intro _; show _ = _)); ((try simp (disch := omega) only [go_sem]); first | done | with_reducible rfl))
    refine AW.loopG (fun z : Nat × Nat => ⟨[.one (.ptr 0 0), .junk, .junk, .one (.ptr 1 0), .junk, .junk, .one (.ptr 0 0), vi z.1, .junk, .junk, .junk, .junk, .junk, .junk, .junk, .junk, .junk, .junk, .junk, .junk], [bx U, .box [.bld 2 (exR U z.1).length], .arr z.2 2 ((exR U z.1).map Run.e)]⟩) (fun z => z.1 ≤ 512) (fun z => 512 - z.1) (0, 0) (Nat.zero_le _) (Gh.sle (by repeat' (first | exact sle_nil | refine sle_cons (VLe.refl _) ?_ | refine sle_cons (VLe.junk _) ?_)) rfl) (fun z hk => ?_)
    obtain ⟨k, cap⟩ := z
    simp only at hk
    by_cases hk' : k < 512
    · have hget := getU U hU k hk'
      repeat' (first | (refine AW.sreg ?_) | (refine AW.reg ?_) | (refine AW.seqv ?_) | (refine AW.blockv ?_) | (refine AW.sdrawn ?_) | (refine AW.drawnv ?_) | (show WR _ _ _ (⟨_, _, none⟩ :: _) _ _; refine WR.x1 rfl rfl (by (try simp (disch := omega) only [go_sem, bx, bC, hU, Nat.mul_one, hget, killM]); first | done | with_reducible rfl) ?_) | (show AWL _ _ _ _ ((_, ⟨_, _, none⟩) :: _) _; refine WD.x1 rfl rfl (by (try simp (disch := omega) only [go_sem, bx, bC, hU, Nat.mul_one, hget, killM]); first | done | with_reducible rfl) ?_) | (refine WR.nil ?_; try dsimp only) | (refine WD.nil ?_; try dsimp only) | (show WR _ _ _ (⟨_, .call _ _, _⟩ :: _) _ _; first | refine' WR.cL rfl (add_q (exR U k) ⟨k, 1⟩ _ (exR_good U k hk) (by simp only; omega)) (by (try simp (disch := omega) only [go_sem, bx, bC, hU, Nat.mul_one, hget, killM]); first | done | with_reducible rfl) ?_ (by (try simp (disch := omega) only [go_sem, bx, bC, hU, Nat.mul_one, hget, killM]); first | done | with_reducible rfl) (by (try simp (disch := omega) only [go_sem, bx, bC, hU, Nat.mul_one, hget, killM]); first | done | with_reducible rfl) (by decide) ?_ (fun cap => ?_)) | (refine AW.skip ?_) | (refine AW.ret ?_) | (refine SeqQ.n ?_) | (refine SeqQ.r ?_) | (refine AW.exit ?_) | (refine SeqQ.e ?_) | (refine BlkQ.n ?_) | (refine BlkQ.r ?_) | (refine BlkQ.e ?_) | (refine BlkQ.o (by decide) ?_) | (refine RndQ.r ?_) | (refine RndQ.e ?_) | (first | show _ = _ | show gOK _ _ _ | (intro _; show _ = _)); ((try simp (disch := omega) only [go_sem, bx, bC, hU, Nat.mul_one, hget, killM]); first | done | with_reducible rfl) | ((first | refine AW.cond (by (try simp (disch := omega) only [go_sem, bx, bC, hU, Nat.mul_one, hget, killM]); first | done | with_reducible rfl) (fun hc => ?_) (fun hc => ?_)) <;> try simp only [go_sem] at hc <;> try first | exact absurd trivial hc | (exfalso; omega)))
      · have hx : exR U (k + 1) = addR (exR U k) ⟨k, 1⟩ := by rw [exR, if_pos ‹_›]
        refine RndQ.n (k+1, ‹Nat›) (by show k + 1 ≤ 512; omega) (by show 512 - (k + 1) < 512 - k; omega) ?_
        simp only [hx]
        exact (Gh.dropS 3 (by simp) (by simp only [go_sem, Nat.reduceLeDiff, Nat.reduceEqDiff, decide_true, decide_false]; repeat' (first | exact sle_nil | (with_reducible refine sle_cons (VLe.refl _) ?_) | refine sle_cons (VLe.junk _) ?_ | refine sle_cons (VLe.int (by omega)) ?_ | refine sle_cons (VLe.refl _) ?_)) (by simp [killO, killC, Cel.keep, bx, killM, killM2]))
      · have hx : exR U (k + 1) = exR U k := by rw [exR, if_neg (by simp_all)]
        refine RndQ.n (k+1, cap) (by show k + 1 ≤ 512; omega) (by show 512 - (k + 1) < 512 - k; omega) ?_
        simp only [hx]
        exact (Gh.dropS 3 (by simp) (by simp only [go_sem, Nat.reduceLeDiff, Nat.reduceEqDiff, decide_true, decide_false]; repeat' (first | exact sle_nil | (with_reducible refine sle_cons (VLe.refl _) ?_) | refine sle_cons (VLe.junk _) ?_ | refine sle_cons (VLe.int (by omega)) ?_ | refine sle_cons (VLe.refl _) ?_)) (by simp [killO, killC, Cel.keep, bx, killM, killM2]))
    · have hk2 : k = 512 := by omega
      subst hk2
      repeat' (first | (refine AW.sreg ?_) | (refine AW.reg ?_) | (refine AW.seqv ?_) | (refine AW.blockv ?_) | (refine AW.sdrawn ?_) | (refine AW.drawnv ?_) | (show WR _ _ _ (⟨_, _, none⟩ :: _) _ _; refine WR.x1 rfl rfl (by (try simp (disch := omega) only [go_sem]); first | done | with_reducible rfl) ?_) | (show AWL _ _ _ _ ((_, ⟨_, _, none⟩) :: _) _; refine WD.x1 rfl rfl (by (try simp (disch := omega) only [go_sem]); first | done | with_reducible rfl) ?_) | (refine WR.nil ?_; try dsimp only) | (refine WD.nil ?_; try dsimp only) | (refine AW.skip ?_) | (refine AW.ret ?_) | (refine SeqQ.n ?_) | (refine SeqQ.r ?_) | (refine AW.exit ?_) | (refine SeqQ.e ?_) | (refine BlkQ.n ?_) | (refine BlkQ.r ?_) | (refine BlkQ.e ?_) | (refine BlkQ.o (by decide) ?_) | (refine RndQ.r ?_) | (refine RndQ.e ?_) | (first | show _ = _ | show gOK _ _ _ | (intro _; show _ = _)); ((try simp (disch := omega) only [go_sem]); first | done | with_reducible rfl) | ((first | refine AW.cond (by (try simp (disch := omega) only [go_sem]); first | done | with_reducible rfl) (fun hc => ?_) (fun hc => ?_)) <;> try simp only [go_sem] at hc <;> try first | exact absurd trivial hc | (exfalso; omega)))
      exact Fin.ret (by simp) rfl ⟨cap, rfl, rfl⟩
  · rintro av os ⟨cap, rfl, rfl⟩
    refine ⟨cap, 2, _, rfl, ?_⟩
    have hf := flat_bx U
    have e1 : ((exR U 512).map Run.e).take (exR U 512).length = (exR U 512).map Run.e := List.take_of_length_le (by simp)
    simp [frzV, frzC, killV, killC, Cel.keep, vl, e1, hf.kill, frzO_bx]
/-- u without v -/
def lessR (U V : List Bool) : Nat → List Bool
  | 0 => U
  | k + 1 => (lessR U V k).set k (U.getD k false && !(V.getD k false))
theorem lessR_len (U V : List Bool) (k : Nat) : (lessR U V k).length = U.length := by
  induction k with
  | zero => rfl
  | succ k ih => simp [lessR, ih]
theorem lessR_get (U V : List Bool) (k j : Nat) (h : k ≤ j) : (lessR U V k).getD j false = U.getD j false := by
  induction k with
  | zero => rfl
  | succ k ih =>
    simp only [lessR, List.getD_eq_getElem?_getD]
    rw [List.getElem?_set_ne (by omega)]
    simpa [List.getD_eq_getElem?_getD] using ih (by omega)
def freedV (a b : List Run) : List Run × Int := if errsE [a, b] ≠ 0 then ([], errsE [a, b]) else (exR (lessR (intoL U0 a) (intoL U0 b) 512) 512, 0)
set_option maxHeartbeats 1000000 in
theorem freedBy_q (a b : List Run) (ha : a.length ≤ 1000) (hb : b.length ≤ 1000) : QC Try.prog G 18 [runsV a, runsV b] (.tup [.one (.dc (.slc ((freedV a b).1.map Run.e))), .one (.dc (ci (freedV a b).2))]) := by
  (refine QC.drop ?_ rfl; refine AC.nz ?_; refine AC.of_codeJ Try.func18 Try.ntmps18 c18_ok r18_ok ?_; unfold c18; simp only [List.length_cons, List.length_nil, List.cons_append, List.nil_append, junks, Nat.reduceAdd, Nat.reduceSub])
  repeat' (first | (refine AW.sreg ?_) | (refine AW.reg ?_) | (refine AW.seqv ?_) | (refine AW.blockv ?_) | (show WR _ _ _ (⟨_, _, none⟩ :: _) _ _; refine WR.x1 rfl rfl (by (try simp (disch := omega) only [go_sem, lls]); first | done | with_reducible rfl) ?_) | (refine WR.nil ?_; try dsimp only) | (show WR _ _ _ (⟨_, _, some _⟩ :: _) _ _; refine WR.xk rfl (by (try simp (disch := omega) only [go_sem, lls]); first | done | with_reducible rfl) ?_) | (show WR _ _ _ (⟨_, .call _ _, _⟩ :: _) _ _; first | refine' WR.cQ rfl (runsErr_q [a, b] (by simp) (by simp; omega)) (by (try simp (disch := omega) only [go_sem, lls]); first | done | with_reducible rfl) ?_ ?_ ?_ ?_) | (refine AW.skip ?_) | (refine AW.ret ?_) | (refine SeqQ.n ?_) | (refine SeqQ.r ?_) | (refine AW.exit ?_) | (refine SeqQ.e ?_) | (refine BlkQ.n ?_) | (refine BlkQ.r ?_) | (refine BlkQ.e ?_) | (refine BlkQ.o (by decide) ?_) | (refine RndQ.r ?_) | (refine RndQ.e ?_) | (first | show _ = _ | show gOK _ _ _ | (intro _; show _ = _)); ((try simp (disch := omega) only [go_sem, lls]); first | done | with_reducible rfl))
  refine AW.cond (by (try simp (disch := omega) only [go_sem]); first | done | with_reducible rfl) (fun hc => ?_) (fun hc => ?_)
  · have h1 : errsE [a, b] ≠ 0 := by simpa using hc
    repeat' (first | (refine AW.sreg ?_) | (refine AW.reg ?_) | (refine AW.seqv ?_) | (refine AW.blockv ?_) | (show WR _ _ _ (⟨_, _, none⟩ :: _) _ _; refine WR.x1 rfl rfl (by (try simp (disch := omega) only [go_sem]); first | done | with_reducible rfl) ?_) | (refine WR.nil ?_; try dsimp only) | (show WR _ _ _ (⟨_, _, some _⟩ :: _) _ _; refine WR.xk rfl (by (try simp (disch := omega) only [go_sem]); first | done | with_reducible rfl) ?_) | (refine AW.skip ?_) | (refine AW.ret ?_) | (refine SeqQ.n ?_) | (refine SeqQ.r ?_) | (refine AW.exit ?_) | (refine SeqQ.e ?_) | (refine BlkQ.n ?_) | (refine BlkQ.r ?_) | (refine BlkQ.e ?_) | (refine BlkQ.o (by decide) ?_) | (refine RndQ.r ?_) | (refine RndQ.e ?_) | (first | show _ = _ | show gOK _ _ _ | (intro _; show _ = _)); ((try simp (disch := omega) only [go_sem]); first | done | with_reducible rfl))
    (refine Fin.ret (by first | exact Nat.zero_le _ | simp) rfl ?_; (try simp (disch := omega) only [go_sem, freedV, h1]); first | done | with_reducible rfl | (simp [freedV, h1]; done) | (simp [freedV, h1]; grind) | rfl)
  · have h1 : errsE [a, b] = 0 := by simpa using hc
    have h2 : (chk a).2 = 0 ∧ (chk b).2 = 0 := by
      simp only [errsE, List.map_cons, List.map_nil, firstE] at h1
      by_cases h3 : (chk a).2 = 0 <;> by_cases h4 : (chk b).2 = 0 <;> simp_all
    have hra := chk_rg h2.1
    have hrb := chk_rg h2.2
    have hU0 : AObj.box (List.replicate 512 (.dc (.raw (.bool false)))) = bx U0 := by rw [bx, U0, List.map_replicate]; rfl
    have hA : (intoL U0 a).length = 512 := by rw [intoL_len]; simp [U0]
    have hB : (intoL U0 b).length = 512 := by rw [intoL_len]; simp [U0]
    repeat' (first | (refine AW.sreg ?_) | (refine AW.reg ?_) | (refine AW.seqv ?_) | (refine AW.blockv ?_) | (show WR _ _ _ (⟨_, _, none⟩ :: _) _ _; refine WR.x1 rfl rfl (by (try simp (disch := omega) only [go_sem, hU0]); first | done | with_reducible rfl) ?_) | (refine WR.nil ?_; try dsimp only) | (show WR _ _ _ (⟨_, _, some _⟩ :: _) _ _; refine WR.xk rfl (by (try simp (disch := omega) only [go_sem, hU0]); first | done | with_reducible rfl) ?_) | (show WR _ _ _ (⟨_, .call _ _, _⟩ :: _) _ _; first | refine' WR.cB rfl (takeAll_q U0 a (by simp [U0]) ha hra) (by (try simp (disch := omega) only [go_sem, hU0]); first | done | with_reducible rfl) ?_ (by (try simp (disch := omega) only [go_sem, hU0]); first | done | with_reducible rfl) rfl (by first | exact flat_bx _ | exact Flat.arr _ _ _ | exact Flat.boxdc (by simp)) (by first | exact flat_bx _ | exact Flat.arr _ _ _ | exact Flat.boxdc (by simp)) ?_ ?_ ?_ | refine' WR.cB rfl (takeAll_q U0 b (by simp [U0]) hb hrb) (by (try simp (disch := omega) only [go_sem, hU0]); first | done | with_reducible rfl) ?_ (by (try simp (disch := omega) only [go_sem, hU0]); first | done | with_reducible rfl) rfl (by first | exact flat_bx _ | exact Flat.arr _ _ _ | exact Flat.boxdc (by simp)) (by first | exact flat_bx _ | exact Flat.arr _ _ _ | exact Flat.boxdc (by simp)) ?_ ?_ ?_) | (refine AW.skip ?_) | (refine AW.ret ?_) | (refine SeqQ.n ?_) | (refine SeqQ.r ?_) | (refine AW.exit ?_) | (refine SeqQ.e ?_) | (refine BlkQ.n ?_) | (refine BlkQ.r ?_) | (refine BlkQ.e ?_) | (refine BlkQ.o (by decide) ?_) | (refine RndQ.r ?_) | (refine RndQ.e ?_) | (first | show _ = _ | show gOK _ _ _ | (intro _; show _ = _)); ((try simp (disch := omega) only [go_sem, hU0]); first | done | with_reducible rfl))
    refine AW.loopG (fun k : Nat => ⟨[runsV a, runsV b, .junk, .junk, .junk, .junk, .junk, .one (.ptr 0 0), .one (.ptr 1 0), .junk, .junk, .junk, .junk, .junk, .junk, .junk, .junk, .junk, .junk, .junk, .junk, vi k, .junk, .junk, .junk, .junk, .junk, .junk, .junk, .junk, .junk, .junk, .junk, .junk, .junk, .junk, .junk], [bx (lessR (intoL U0 a) (intoL U0 b) k), bx (intoL U0 b)]⟩) (fun k => k ≤ 512) (fun k => 512 - k) 0 (Nat.zero_le _) (Gh.sle (by repeat' (first | exact sle_nil | refine sle_cons (VLe.refl _) ?_ | refine sle_cons (VLe.junk _) ?_)) rfl) (fun k hk => ?_)
    by_cases hk' : k < 512
    · have hL : (lessR (intoL U0 a) (intoL U0 b) k).length = 512 := by rw [lessR_len, hA]
      have g1 := getU _ hL k hk'
      have g2 := getU _ hB k hk'
      rw [lessR_get _ _ _ _ (Nat.le_refl _)] at g1
      have hs : ∀ c : Bool, (List.map bC (lessR (intoL U0 a) (intoL U0 b) k)).take k ++ [Cel.dc (.raw (.bool c))] ++ (List.map bC (lessR (intoL U0 a) (intoL U0 b) k)).drop (k + 1) = List.map bC ((lessR (intoL U0 a) (intoL U0 b) k).set k c) := fun c => box_put _ _ c (by omega)
      repeat' (first | (refine AW.sreg ?_) | (refine AW.reg ?_) | (refine AW.seqv ?_) | (refine AW.blockv ?_) | (show WR _ _ _ (⟨_, _, none⟩ :: _) _ _; refine WR.x1 rfl rfl (by (try simp (disch := omega) only [go_sem, bx, bC, hL, hB, Nat.mul_one, g1, g2, hs]); first | done | with_reducible rfl) ?_) | (refine WR.nil ?_; try dsimp only) | (show WR _ _ _ (⟨_, _, some _⟩ :: _) _ _; refine WR.xk rfl (by (try simp (disch := omega) only [go_sem, bx, bC, hL, hB, Nat.mul_one, g1, g2, hs]); first | done | with_reducible rfl) ?_) | (refine AW.skip ?_) | (refine AW.ret ?_) | (refine SeqQ.n ?_) | (refine SeqQ.r ?_) | (refine AW.exit ?_) | (refine SeqQ.e ?_) | (refine BlkQ.n ?_) | (refine BlkQ.r ?_) | (refine BlkQ.e ?_) | (refine BlkQ.o (by decide) ?_) | (refine RndQ.r ?_) | (refine RndQ.e ?_) | (first | show _ = _ | show gOK _ _ _ | (intro _; show _ = _)); ((try simp (disch := omega) only [go_sem, bx, bC, hL, hB, Nat.mul_one, g1, g2, hs]); first | done | with_reducible rfl) | ((first | refine AW.cond (by (try simp (disch := omega) only [go_sem, bx, bC, hL, hB, Nat.mul_one, g1, g2, hs]); first | done | with_reducible rfl) (fun hc => ?_) (fun hc => ?_) | (refine WR.splitS rfl (by (try simp (disch := omega) only [go_sem, bx, bC, hL, hB, Nat.mul_one, g1, g2, hs]); first | done | with_reducible rfl) (by (try simp (disch := omega) only [go_sem, bx, bC, hL, hB, Nat.mul_one, g1, g2, hs]); first | done | with_reducible rfl) (by (try simp (disch := omega) only [go_sem, bx, bC, hL, hB, Nat.mul_one, g1, g2, hs]); first | done | with_reducible rfl) (fun hc => ?_) (fun hc => ?_); fail_if_success (with_reducible have hz : true = true := hc); fail_if_success (with_reducible have hz : false = true := hc))) <;> try simp only [go_sem] at hc <;> try first | exact absurd trivial hc | (exfalso; omega)))
      · have hx : lessR (intoL U0 a) (intoL U0 b) (k + 1) = (lessR (intoL U0 a) (intoL U0 b) k).set k (!(intoL U0 b).getD k false) := by rw [lessR, ‹(intoL U0 a).getD k false = true›, Bool.true_and]
        refine RndQ.n (k+1) (by omega) (by omega) ?_
        simp only [hx]
        exact Gh.dropS 2 (by simp) (by simp only [go_sem, Nat.reduceLeDiff, Nat.reduceEqDiff, decide_true, decide_false]; repeat' (first | exact sle_nil | (with_reducible refine sle_cons (VLe.refl _) ?_) | refine sle_cons (VLe.junk _) ?_ | refine sle_cons (VLe.int (by omega)) ?_ | refine sle_cons (VLe.refl _) ?_)) (by show [killO _ (bx _), killO _ (bx _)] = _; rw [kill_bx, kill_bx])
      · have hx : lessR (intoL U0 a) (intoL U0 b) (k + 1) = (lessR (intoL U0 a) (intoL U0 b) k).set k false := by rw [lessR, ‹(intoL U0 a).getD k false = false›, Bool.false_and]
        refine RndQ.n (k+1) (by omega) (by omega) ?_
        simp only [hx]
        exact Gh.dropS 2 (by simp) (by simp only [go_sem, Nat.reduceLeDiff, Nat.reduceEqDiff, decide_true, decide_false]; repeat' (first | exact sle_nil | (with_reducible refine sle_cons (VLe.refl _) ?_) | refine sle_cons (VLe.junk _) ?_ | refine sle_cons (VLe.int (by omega)) ?_ | refine sle_cons (VLe.refl _) ?_)) (by show [killO _ (bx _), killO _ (bx _)] = _; rw [kill_bx, kill_bx])
    · have hk2 : k = 512 := by omega
      subst hk2
      repeat' (first | (refine AW.sreg ?_) | (refine AW.reg ?_) | (refine AW.seqv ?_) | (refine AW.blockv ?_) | (show WR _ _ _ (⟨_, _, none⟩ :: _) _ _; refine WR.x1 rfl rfl (by (try simp (disch := omega) only [go_sem]); first | done | with_reducible rfl) ?_) | (refine WR.nil ?_; try dsimp only) | (show WR _ _ _ (⟨_, _, some _⟩ :: _) _ _; refine WR.xk rfl (by (try simp (disch := omega) only [go_sem]); first | done | with_reducible rfl) ?_) | (show WR _ _ _ (⟨_, .call _ _, _⟩ :: _) _ _; first | refine' WR.cB rfl (extents_q (lessR (intoL U0 a) (intoL U0 b) 512) (by rw [lessR_len, hA])) (by (try simp (disch := omega) only [go_sem]); first | done | with_reducible rfl) ?_ (by (try simp (disch := omega) only [go_sem]); first | done | with_reducible rfl) rfl (by first | exact flat_bx _ | exact Flat.arr _ _ _ | exact Flat.boxdc (by simp)) (by first | exact flat_bx _ | exact Flat.arr _ _ _ | exact Flat.boxdc (by simp)) ?_ ?_ ?_) | (refine AW.skip ?_) | (refine AW.ret ?_) | (refine SeqQ.n ?_) | (refine SeqQ.r ?_) | (refine AW.exit ?_) | (refine SeqQ.e ?_) | (refine BlkQ.n ?_) | (refine BlkQ.r ?_) | (refine BlkQ.e ?_) | (refine BlkQ.o (by decide) ?_) | (refine RndQ.r ?_) | (refine RndQ.e ?_) | (first | show _ = _ | show gOK _ _ _ | (intro _; show _ = _)); ((try simp (disch := omega) only [go_sem]); first | done | with_reducible rfl) | ((first | refine AW.cond (by (try simp (disch := omega) only [go_sem]); first | done | with_reducible rfl) (fun hc => ?_) (fun hc => ?_) | (refine WR.splitS rfl (by (try simp (disch := omega) only [go_sem]); first | done | with_reducible rfl) (by (try simp (disch := omega) only [go_sem]); first | done | with_reducible rfl) (by (try simp (disch := omega) only [go_sem]); first | done | with_reducible rfl) (fun hc => ?_) (fun hc => ?_); fail_if_success (with_reducible have hz : true = true := hc); fail_if_success (with_reducible have hz : false = true := hc))) <;> try simp only [go_sem] at hc <;> try first | exact absurd trivial hc | (exfalso; omega)))
      have hf : freedV a b = (exR (lessR (intoL U0 a) (intoL U0 b) 512) 512, 0) := by rw [freedV, if_neg (by omega)]
      (refine Fin.ret (by first | exact Nat.zero_le _ | simp) rfl ?_; (try simp (disch := omega) only [go_sem, hf]); first | done | with_reducible rfl | (simp [hf]; done) | (simp [hf]; grind) | rfl)
end Go.Proofs.Ytginjcpblgpcoaa
