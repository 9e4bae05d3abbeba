/- Results of changes. Conditions: none. -/
import Derived.Test.YtginjcpblgpcoaaBg
namespace Go.Proofs.Ytginjcpblgpcoaa
set_option maxRecDepth 4000
set_option linter.unusedSimpArgs false
set_option linter.unusedVariables false
attribute [local irreducible] AW WR Gh AC AWL
variable {G : Glob}
attribute [local go_sem] rn Run.v Run.e runsV
/-- a hole, or clusters of the volume -/
def Vol (r : Run) : Prop := (r.s = -1 ∧ 0 ≤ r.n) ∨ (0 ≤ r.s ∧ 1 ≤ r.n ∧ r.s + r.n ≤ 512)
theorem take_vol (U : List Bool) (r : Run) (hU : U.length = 512) (h : Vol r) : AC Try.prog G 71 [.one (.ptr 0 0), r.v] [bx U] fun av o => av = vb (r.fresh U) ∧ o = [bx (r.into U)] := by
  rcases h with ⟨h1, _⟩ | ⟨h1, h2, h3⟩
  · have := take_hole (G := G) U r h1
    simpa only [Run.fresh, Run.into, h1, if_true] using this
  · have := take_q (G := G) U r r.s.toNat r.n.toNat hU (by omega) (by omega) (by omega)
    have hne : ¬ r.s = -1 := by omega
    simpa only [Run.fresh, Run.into, hne, if_false] using this
/-- no cluster twice -/
def frK (R : List Run) : Nat → Bool
  | 0 => true
  | k + 1 => (R.getD k ⟨0, 0⟩).fresh (intoL U0 (R.take k)) && frK R k
theorem frK_succ (R : List Run) (k : Nat) (hk : k < R.length) : frK R (k + 1) = (R[k].fresh (intoL U0 (R.take k)) && frK R k) := by
  rw [frK, show R.getD k ⟨0, 0⟩ = R[k] by simp [List.getD_eq_getElem?_getD, List.getElem?_eq_getElem hk]]
def doneE (R : List Run) : Int := firstE [if frK R R.length then 0 else 23, if lenW R ≤ 4096 ∧ (R.length : Int) ≤ 64 then 0 else 8]
set_option maxHeartbeats 2000000 in
theorem done_q (R : List Run) (cap : Nat) (hv : ∀ r ∈ R, Vol r) (hl : R.length ≤ 100000) :
    AC Try.prog G 72 [.one (.ptr 0 0)] [.box [.bld 1 R.length], .arr cap 2 (R.map Run.e)] fun av os =>
      av = (if doneE R = 0 then .tup [.one (.bld 1 R.length), .one (.dc (ci 0))] else .tup [.one (.dc (.slc [])), .one (.dc (ci (doneE R)))]) ∧ ∃ cap', os = [.box [.bld 1 R.length], .arr cap' 2 (R.map Run.e)] := by
  refine AC.drop ?_
  refine AC.nz ?_
  (refine AC.of_codeJ Try.func72 Try.ntmps72 c72_ok r72_ok ?_; unfold c72; simp only [List.length_cons, List.length_nil, List.cons_append, List.nil_append, junks, Nat.reduceAdd, Nat.reduceSub])
  have hU0 : AObj.box (List.replicate 512 (.dc (.raw (.bool false)))) = bx U0 := by rw [bx, U0, List.map_replicate]; rfl
  repeat' (first | (refine AW.sreg ?_) | (refine AW.reg ?_) | (refine AW.seqv ?_) | (refine AW.blockv ?_) | (refine AW.sdrawn ?_) | (refine AW.drawnv ?_) | (show WR _ _ _ (⟨_, _, none⟩ :: _) _ _; refine WR.x1 rfl rfl (by (try simp (disch := omega) only [go_sem, hU0]); first | done | with_reducible rfl) ?_) | (show AWL _ _ _ _ ((_, ⟨_, _, none⟩) :: _) _; refine WD.x1 rfl rfl (by (try simp (disch := omega) only [go_sem, hU0]); first | done | with_reducible rfl) ?_) | (refine WR.nil ?_; try dsimp only) | (refine WD.nil ?_; try dsimp only) | (show WR _ _ _ (⟨_, _, some _⟩ :: _) _ _; refine WR.xk rfl (by (try simp (disch := omega) only [go_sem, hU0]); first | done | with_reducible rfl) ?_) | (show AWL _ _ _ _ ((_, ⟨_, _, some _⟩) :: _) _; refine WD.xk rfl (by (try simp (disch := omega) only [go_sem, hU0]); first | done | with_reducible rfl) ?_) | (show AWL _ _ _ _ ((_, ⟨_, .bslc _ _ _ _, _⟩) :: _) _; refine' WD.bs ?_ rfl (by (try simp (disch := omega) only [go_sem, hU0]); first | done | with_reducible rfl) ?_) | (refine AW.skip ?_) | (refine AW.ret ?_) | (refine SeqQ.n ?_) | (refine SeqQ.r ?_) | (refine AW.exit ?_) | (refine SeqQ.e ?_) | (refine BlkQ.n ?_) | (refine BlkQ.r ?_) | (refine BlkQ.e ?_) | (refine BlkQ.o (by decide) ?_) | (refine RndQ.r ?_) | (refine RndQ.e ?_) | (first | show _ = _ | show gOK _ _ _ | (intro _; show _ = _)); ((try simp (disch := omega) only [go_sem, hU0]); first | done | with_reducible rfl))
  refine AW.loopG (fun k : Nat => ⟨[.one (.ptr 0 0), .junk, .junk, .junk, .one (.ptr 2 0), vb (frK R k), .junk, .junk, .junk, .junk, .junk, .junk, .one (.bld 1 R.length), vi R.length, vi k, .junk, .junk, .junk, .junk, .junk, .junk, .junk, .junk, .junk, .junk, .junk, .junk, .junk, .junk, .junk, .junk, .junk, .junk, .junk, .junk, .junk, .junk, .junk, .junk, .junk, .junk, .junk, .junk, .junk, .junk, .junk, .junk, .junk, .junk, .junk], [.box [.bld 1 R.length], .arr cap 2 (R.map Run.e), bx (intoL U0 (R.take k))]⟩) (fun k => k ≤ R.length) (fun k => R.length - k) 0 (Nat.zero_le _) (Gh.sle (by repeat' (first | exact sle_nil | refine sle_cons (VLe.refl _) ?_ | refine sle_cons (VLe.junk _) ?_)) rfl) (fun k hk => ?_)
  have hlm : (R.map Run.e).length = R.length := by simp
  by_cases hk' : k < R.length
  · have h0 : (intoL U0 (R.take k)).length = 512 := by rw [intoL_len]; exact U0_len
    have hf := frK_succ R k hk'
    cases hfr : R[k].fresh (intoL U0 (R.take k))
    all_goals
      simp only [hfr, Bool.true_and, Bool.false_and] at hf
      have hT := take_vol (G := G) (intoL U0 (R.take k)) R[k] h0 (hv _ (List.getElem_mem hk'))
      rw [hfr] at hT
      repeat' (first | (refine AW.sreg ?_) | (refine AW.reg ?_) | (refine AW.seqv ?_) | (refine AW.blockv ?_) | (refine AW.sdrawn ?_) | (refine AW.drawnv ?_) | (show WR _ _ _ (⟨_, _, none⟩ :: _) _ _; refine WR.x1 rfl rfl (by (try simp (disch := omega) only [go_sem, hlm, List.getElem_map]); first | done | with_reducible rfl) ?_) | (show AWL _ _ _ _ ((_, ⟨_, _, none⟩) :: _) _; refine WD.x1 rfl rfl (by (try simp (disch := omega) only [go_sem, hlm, List.getElem_map]); first | done | with_reducible rfl) ?_) | (refine WR.nil ?_; try dsimp only) | (refine WD.nil ?_; try dsimp only) | (show WR _ _ _ (⟨_, _, some _⟩ :: _) _ _; refine WR.xk rfl (by (try simp (disch := omega) only [go_sem, hlm, List.getElem_map]); first | done | with_reducible rfl) ?_) | (show AWL _ _ _ _ ((_, ⟨_, _, some _⟩) :: _) _; refine WD.xk rfl (by (try simp (disch := omega) only [go_sem, hlm, List.getElem_map]); first | done | with_reducible rfl) ?_) | (show AWL _ _ _ _ ((_, ⟨_, .bslc _ _ _ _, _⟩) :: _) _; refine' WD.bs ?_ rfl (by (try simp (disch := omega) only [go_sem, hlm, List.getElem_map]); first | done | with_reducible rfl) ?_) | (show WR _ _ _ (⟨_, .call _ _, _⟩ :: _) _ _; first | refine' WR.cB rfl (hT) (by (try simp (disch := omega) only [go_sem, hlm, List.getElem_map]); first | done | with_reducible rfl) ?_ (by (try simp (disch := omega) only [go_sem, hlm, List.getElem_map]); first | done | with_reducible rfl) rfl (by first | exact flat_bx _ | exact Flat.arr _ _ _ | exact Flat.boxdc (by simp)) (by first | exact flat_bx _ | exact Flat.arr _ _ _ | exact Flat.boxdc (by simp)) ?_ ?_ ?_) | (refine AW.skip ?_) | (refine AW.ret ?_) | (refine SeqQ.n ?_) | (refine SeqQ.r ?_) | (refine AW.exit ?_) | (refine SeqQ.e ?_) | (refine BlkQ.n ?_) | (refine BlkQ.r ?_) | (refine BlkQ.e ?_) | (refine BlkQ.o (by decide) ?_) | (refine RndQ.r ?_) | (refine RndQ.e ?_) | (first | show _ = _ | show gOK _ _ _ | (intro _; show _ = _)); ((try simp (disch := omega) only [go_sem, hlm, List.getElem_map]); first | done | with_reducible rfl) | ((first | refine AW.cond (by (try simp (disch := omega) only [go_sem, hlm, List.getElem_map]); first | done | with_reducible rfl) (fun hc => ?_) (fun hc => ?_) | (refine WR.splitS rfl (by (try simp (disch := omega) only [go_sem, hlm, List.getElem_map]); first | done | with_reducible rfl) (by (try simp (disch := omega) only [go_sem, hlm, List.getElem_map]); first | done | with_reducible rfl) (by (try simp (disch := omega) only [go_sem, hlm, List.getElem_map]); first | done | with_reducible rfl) (fun hc => ?_) (fun hc => ?_); fail_if_success (with_reducible have hz : true = true := hc); fail_if_success (with_reducible have hz : false = true := hc)) | (refine WD.splitS rfl (by (try simp (disch := omega) only [go_sem, hlm, List.getElem_map]); first | done | with_reducible rfl) (by (try simp (disch := omega) only [go_sem, hlm, List.getElem_map]); first | done | with_reducible rfl) (by (try simp (disch := omega) only [go_sem, hlm, List.getElem_map]); first | done | with_reducible rfl) (fun hc => ?_) (fun hc => ?_); fail_if_success (with_reducible have hz : true = true := hc); fail_if_success (with_reducible have hz : false = true := hc))) <;> try simp only [go_sem] at hc <;> try first | exact absurd trivial hc | (exfalso; omega)))
      rw [← intoL_take U0 R k hk']
      refine RndQ.n (k+1) (by omega) (by omega) ?_
      simp only [hf]
      exact Gh.dropS 3 (by simp) (by simp only [go_sem, Nat.reduceLeDiff, Nat.reduceEqDiff, decide_true, decide_false]; repeat' (first | exact sle_nil | (with_reducible refine sle_cons (VLe.refl _) ?_) | refine sle_cons (VLe.junk _) ?_ | refine sle_cons (VLe.int (by omega)) ?_ | refine sle_cons (VLe.refl _) ?_)) (by show [_, _, killO _ (bx _)] = _; rw [kill_bx]; rfl)
  · have hk2 : k = R.length := by omega
    subst hk2
    have htk : (R.map Run.e).take R.length = R.map Run.e := List.take_of_length_le (by simp)
    have hd : doneE R = firstE [if frK R R.length then 0 else 23, if lenW R ≤ 4096 ∧ (R.length : Int) ≤ 64 then 0 else 8] := rfl
    by_cases h1 : lenW R ≤ 4096
    all_goals by_cases h2 : (R.length : Int) ≤ 64
    all_goals
      simp only [h1, h2, true_and, and_true, if_true, if_false, and_false, false_and] at hd
      repeat' (first | (refine AW.sreg ?_) | (refine AW.reg ?_) | (refine AW.seqv ?_) | (refine AW.blockv ?_) | (refine AW.sdrawn ?_) | (refine AW.drawnv ?_) | (show WR _ _ _ (⟨_, _, none⟩ :: _) _ _; refine WR.x1 rfl rfl (by (try simp (disch := omega) only [go_sem, htk, hlm, el, h1, h2]); first | done | with_reducible rfl) ?_) | (show AWL _ _ _ _ ((_, ⟨_, _, none⟩) :: _) _; refine WD.x1 rfl rfl (by (try simp (disch := omega) only [go_sem, htk, hlm, el, h1, h2]); first | done | with_reducible rfl) ?_) | (refine WR.nil ?_; try dsimp only) | (refine WD.nil ?_; try dsimp only) | (show WR _ _ _ (⟨_, _, some _⟩ :: _) _ _; refine WR.xk rfl (by (try simp (disch := omega) only [go_sem, htk, hlm, el, h1, h2]); first | done | with_reducible rfl) ?_) | (show AWL _ _ _ _ ((_, ⟨_, _, some _⟩) :: _) _; refine WD.xk rfl (by (try simp (disch := omega) only [go_sem, htk, hlm, el, h1, h2]); first | done | with_reducible rfl) ?_) | (show AWL _ _ _ _ ((_, ⟨_, .bslc _ _ _ _, _⟩) :: _) _; refine' WD.bs ?_ rfl (by (try simp (disch := omega) only [go_sem, htk, hlm, el, h1, h2]); first | done | with_reducible rfl) ?_) | (show WR _ _ _ (⟨_, .call _ _, _⟩ :: _) _ _; first | refine' WR.cQ rfl (unless_q _ _) (by (try simp (disch := omega) only [go_sem, htk, hlm, el, h1, h2]); first | done | with_reducible rfl) ?_ ?_ ?_ ?_) | (show AWL _ _ _ _ ((_, ⟨_, .call _ _, _⟩) :: _) _; first | refine' WD.cQ rfl (unless_q _ _) (fun _ => (by (try simp (disch := omega) only [go_sem, htk, hlm, el, h1, h2]); first | done | with_reducible rfl)) ?_ ?_ ?_ ?_) | (show WR _ _ _ (⟨_, .call _ _, _⟩ :: _) _ _; first | refine' WR.cV rfl (length_any R (by omega)) (by (try simp (disch := omega) only [go_sem, htk, hlm, el, h1, h2]); first | done | with_reducible rfl) ?_ ?_ ?_ ?_ | refine' WR.cV rfl (first_q [_, _] (by simp)) (by (try simp (disch := omega) only [go_sem, htk, hlm, el, h1, h2]); first | done | with_reducible rfl) ?_ ?_ ?_ ?_) | (show AWL _ _ _ _ ((_, ⟨_, .call _ _, _⟩) :: _) _; first | refine' WD.cV rfl (length_any R (by omega)) (by (try simp (disch := omega) only [go_sem, htk, hlm, el, h1, h2]); first | done | with_reducible rfl) ?_ ?_ ?_ ?_ | refine' WD.cV rfl (first_q [_, _] (by simp)) (by (try simp (disch := omega) only [go_sem, htk, hlm, el, h1, h2]); first | done | with_reducible rfl) ?_ ?_ ?_ ?_) | (refine AW.skip ?_) | (refine AW.ret ?_) | (refine SeqQ.n ?_) | (refine SeqQ.r ?_) | (refine AW.exit ?_) | (refine SeqQ.e ?_) | (refine BlkQ.n ?_) | (refine BlkQ.r ?_) | (refine BlkQ.e ?_) | (refine BlkQ.o (by decide) ?_) | (refine RndQ.r ?_) | (refine RndQ.e ?_) | (first | show _ = _ | show gOK _ _ _ | (intro _; show _ = _)); ((try simp (disch := omega) only [go_sem, htk, hlm, el, h1, h2]); first | done | with_reducible rfl) | ((first | refine AW.cond (by (try simp (disch := omega) only [go_sem, htk, hlm, el, h1, h2]); first | done | with_reducible rfl) (fun hc => ?_) (fun hc => ?_) | (refine WR.splitS rfl (by (try simp (disch := omega) only [go_sem, htk, hlm, el, h1, h2]); first | done | with_reducible rfl) (by (try simp (disch := omega) only [go_sem, htk, hlm, el, h1, h2]); first | done | with_reducible rfl) (by (try simp (disch := omega) only [go_sem, htk, hlm, el, h1, h2]); first | done | with_reducible rfl) (fun hc => ?_) (fun hc => ?_); fail_if_success (with_reducible have hz : true = true := hc); fail_if_success (with_reducible have hz : false = true := hc)) | (refine WD.splitS rfl (by (try simp (disch := omega) only [go_sem, htk, hlm, el, h1, h2]); first | done | with_reducible rfl) (by (try simp (disch := omega) only [go_sem, htk, hlm, el, h1, h2]); first | done | with_reducible rfl) (by (try simp (disch := omega) only [go_sem, htk, hlm, el, h1, h2]); first | done | with_reducible rfl) (fun hc => ?_) (fun hc => ?_); fail_if_success (with_reducible have hz : true = true := hc); fail_if_success (with_reducible have hz : false = true := hc))) <;> try simp only [go_sem] at hc <;> try first | exact absurd trivial hc | (exfalso; omega)))
    all_goals first
      | (simp only [hd, if_neg ‹¬ (firstE _ = 0)›]; exact Fin.ret (by simp) rfl ⟨rfl, cap, rfl⟩)
      | (simp only [hd, if_pos ‹firstE _ = 0›]; exact Fin.ret (by simp) rfl ⟨rfl, cap, rfl⟩)
def madeV (L : List (List Run)) : List Run × Int := if doneE (addL [] L.flatten) = 0 then (addL [] L.flatten, 0) else ([], doneE (addL [] L.flatten))
theorem addL_app (R a b : List Run) : addL R (a ++ b) = addL (addL R a) b := by simp [addL]
theorem Fine.flat {L : List (List Run)} (h : Fine L.flatten) : ∀ l ∈ L, Fine l := by
  intro l hl
  have hm : ∀ q ∈ l, q ∈ L.flatten := fun q hq => List.mem_flatten.2 ⟨l, hl, hq⟩
  obtain ⟨s, t, rfl⟩ := List.append_of_mem hl
  have e : (s ++ l :: t).flatten = s.flatten ++ (l ++ t.flatten) := by simp
  have h1 := h.sum
  have h2 := h.len
  rw [e] at h1 h2
  rw [lenR_app, lenR_app] at h1
  simp only [List.length_append] at h2
  have h3 := lenR_nonneg s.flatten (fun q hq => (h.el q (by rw [e]; exact List.mem_append_left _ hq)).2.2)
  have h4 := lenR_nonneg t.flatten (fun q hq => (h.el q (by rw [e]; exact List.mem_append_right _ (List.mem_append_right _ hq))).2.2)
  exact ⟨fun q hq => h.el q (hm q hq), by omega, by omega⟩
theorem Fine.add {l : List Run} (h : Fine l) : Fine (addL [] l) := by
  obtain ⟨a, b, c⟩ := addL_good (R := []) (by simp) h.el
  have := h.sum
  have := h.len
  simp only [lenR, List.map_nil, List.sum_nil, List.length_nil] at b c
  exact ⟨a, by simp only [lenR] at *; omega, by omega⟩
theorem Fine.take {l : List Run} (h : Fine l) (k : Nat) : Fine (l.take k) := ⟨fun q hq => h.el q (List.mem_of_mem_take hq), by have := lenR_le_take l k (fun r hr => (h.el r hr).2.2); have := h.sum; omega, by have := h.len; simp; omega⟩
theorem flat_take {L : List (List Run)} (k : Nat) : ∃ n, (L.take k).flatten = L.flatten.take n := by
  refine ⟨(L.take k).flatten.length, ?_⟩
  conv => rhs; rw [← List.take_append_drop k L, List.flatten_append]
  simp
set_option maxHeartbeats 2000000 in
theorem made_q (L : List (List Run)) (hL : L.length ≤ 1000) (h : Fine L.flatten) (hv : ∀ r ∈ addL [] L.flatten, Vol r) :
    QC Try.prog G 53 [vl (lls L)] (.tup [.one (.dc (.slc ((madeV L).1.map Run.e))), .one (.dc (ci (madeV L).2))]) := by
  refine QC.frz (R := fun av o => ∃ cap, av = (if doneE (addL [] L.flatten) = 0 then .tup [.one (.bld 1 (addL [] L.flatten).length), .one (.dc (ci 0))] else .tup [.one (.dc (.slc [])), .one (.dc (ci (doneE (addL [] L.flatten))))]) ∧ o = [.box [.bld 1 (addL [] L.flatten).length], .arr cap 2 ((addL [] L.flatten).map Run.e)]) ?_ ?_
  · (refine AC.of_codeJ Try.func53 Try.ntmps53 c53_ok r53_ok ?_; unfold c53; simp only [List.length_cons, List.length_nil, List.cons_append, List.nil_append, junks, Nat.reduceAdd, Nat.reduceSub])
    have hlen : (lls L).length = L.length := by simp [lls]
    repeat' (first | (refine AW.sreg ?_) | (refine AW.reg ?_) | (refine AW.seqv ?_) | (refine AW.blockv ?_) | (show WR _ _ _ (⟨_, _, none⟩ :: _) _ _; refine WR.x1 rfl rfl (by (try simp (disch := omega) only [go_sem, hlen]); first | done | with_reducible rfl) ?_) | (refine WR.nil ?_; try dsimp only) | (refine AW.skip ?_) | (refine AW.ret ?_) | (refine SeqQ.n ?_) | (refine SeqQ.r ?_) | (refine AW.exit ?_) | (refine SeqQ.e ?_) | (refine BlkQ.n ?_) | (refine BlkQ.r ?_) | (refine BlkQ.e ?_) | (refine BlkQ.o (by decide) ?_) | (refine RndQ.r ?_) | (refine RndQ.e ?_) | (first | show _ = _ | show gOK _ _ _ | (intro _; show _ = _)); ((try simp (disch := omega) only [go_sem, hlen]); first | done | with_reducible rfl))
    refine AW.ghost (Gh.nilB (id := 0) (j := 0) 2 rfl rfl) ?_
    simp only [List.set_cons_succ, List.set_cons_zero, List.cons_append, List.nil_append, List.length_cons, List.length_nil, Nat.reduceAdd]
    refine AW.loopG (fun z : Nat × Nat => ⟨[.junk, .junk, .one (.dc (.raw (.slice none 0 0))), vi 0, .one (.ptr 0 0), .junk, .junk, vl (lls L), vi L.length, vi z.1, .junk, .junk, .junk, .junk, .junk, .junk, .junk, .junk, .junk], [.box [.bld 1 (addL [] (L.take z.1).flatten).length], .arr z.2 2 ((addL [] (L.take z.1).flatten).map Run.e)]⟩) (fun z => z.1 ≤ L.length) (fun z => L.length - z.1) (0, 0) (Nat.zero_le _) (Gh.sle (by repeat' (first | exact sle_nil | refine sle_cons (VLe.refl _) ?_ | refine sle_cons (VLe.junk _) ?_)) rfl) (fun z hk => ?_)
    obtain ⟨k, cap⟩ := z
    simp only at hk
    by_cases hk' : k < L.length
    · have hr : (lls L)[k]? = some [.slc (L[k].map Run.e)] := by simp [lls, hk']
      have hx : (L.take (k + 1)).flatten = (L.take k).flatten ++ L[k] := by rw [List.take_succ_eq_append_getElem hk']; simp only [List.flatten_append, List.flatten_cons, List.flatten_nil, List.append_nil]
      obtain ⟨n, hn⟩ := flat_take (L := L) k
      have hF : Fine (addL [] (L.take k).flatten) := by rw [hn]; exact (h.take n).add
      repeat' (first | (refine AW.sreg ?_) | (refine AW.reg ?_) | (refine AW.seqv ?_) | (refine AW.blockv ?_) | (show WR _ _ _ (⟨_, _, none⟩ :: _) _ _; refine WR.x1 rfl rfl (by (try simp (disch := omega) only [go_sem, hlen, hr]); first | done | with_reducible rfl) ?_) | (refine WR.nil ?_; try dsimp only) | (show WR _ _ _ (⟨_, .call _ _, _⟩ :: _) _ _; first | refine' WR.cL rfl (addAll_q (addL [] (L.take k).flatten) L[k] _ hF (h.flat _ (List.getElem_mem hk'))) (by (try simp (disch := omega) only [go_sem, hlen, hr]); first | done | with_reducible rfl) ?_ (by (try simp (disch := omega) only [go_sem, hlen, hr]); first | done | with_reducible rfl) (by (try simp (disch := omega) only [go_sem, hlen, hr]); first | done | with_reducible rfl) (by decide) ?_ (fun cap => ?_)) | (refine AW.skip ?_) | (refine AW.ret ?_) | (refine SeqQ.n ?_) | (refine SeqQ.r ?_) | (refine AW.exit ?_) | (refine SeqQ.e ?_) | (refine BlkQ.n ?_) | (refine BlkQ.r ?_) | (refine BlkQ.e ?_) | (refine BlkQ.o (by decide) ?_) | (refine RndQ.r ?_) | (refine RndQ.e ?_) | (first | show _ = _ | show gOK _ _ _ | (intro _; show _ = _)); ((try simp (disch := omega) only [go_sem, hlen, hr]); first | done | with_reducible rfl) | ((first | refine AW.cond (by (try simp (disch := omega) only [go_sem, hlen, hr]); first | done | with_reducible rfl) (fun hc => ?_) (fun hc => ?_)) <;> try simp only [go_sem] at hc <;> try first | exact absurd trivial hc | (exfalso; omega)))
      refine RndQ.n (k+1, ‹Nat›) (by show k + 1 ≤ _; omega) (by show _ - (k + 1) < _ - k; omega) ?_
      simp only [hx, addL_app]
      exact Gh.dropS 2 (by simp) (by simp only [go_sem, Nat.reduceLeDiff, Nat.reduceEqDiff, decide_true, decide_false]; repeat' (first | exact sle_nil | (with_reducible refine sle_cons (VLe.refl _) ?_) | refine sle_cons (VLe.junk _) ?_ | refine sle_cons (VLe.int (by omega)) ?_ | refine sle_cons (VLe.refl _) ?_)) (by simp [killO, killC, Cel.keep])
    · have hk2 : k = L.length := by omega
      subst hk2
      rw [List.take_length]
      have hlR : (addL [] L.flatten).length ≤ 100000 := h.add.len
      have hd := done_q (G := G) (addL [] L.flatten) cap hv hlR
      generalize addL [] L.flatten = R at hd ⊢
      by_cases h0 : doneE R = 0
      · simp only [if_pos h0] at hd ⊢
        repeat' (first | (refine AW.sreg ?_) | (refine AW.reg ?_) | (refine AW.seqv ?_) | (refine AW.blockv ?_) | (show WR _ _ _ (⟨_, _, none⟩ :: _) _ _; refine WR.x1 rfl rfl (by (try simp (disch := omega) only [go_sem, hlen]); first | done | with_reducible rfl) ?_) | (refine WR.nil ?_; try dsimp only) | (show WR _ _ _ (⟨_, .call _ _, _⟩ :: _) _ _; first | refine' WR.cL rfl (hd) (by (try simp (disch := omega) only [go_sem, hlen]); first | done | with_reducible rfl) ?_ (by (try simp (disch := omega) only [go_sem, hlen]); first | done | with_reducible rfl) (by (try simp (disch := omega) only [go_sem, hlen]); first | done | with_reducible rfl) (by decide) ?_ (fun cap => ?_)) | (refine AW.skip ?_) | (refine AW.ret ?_) | (refine SeqQ.n ?_) | (refine SeqQ.r ?_) | (refine AW.exit ?_) | (refine SeqQ.e ?_) | (refine BlkQ.n ?_) | (refine BlkQ.r ?_) | (refine BlkQ.e ?_) | (refine BlkQ.o (by decide) ?_) | (refine RndQ.r ?_) | (refine RndQ.e ?_) | (first | show _ = _ | show gOK _ _ _ | (intro _; show _ = _)); ((try simp (disch := omega) only [go_sem, hlen]); first | done | with_reducible rfl) | ((first | refine AW.cond (by (try simp (disch := omega) only [go_sem, hlen]); first | done | with_reducible rfl) (fun hc => ?_) (fun hc => ?_)) <;> try simp only [go_sem] at hc <;> try first | exact absurd trivial hc | (exfalso; omega)))
        exact Fin.ret (by simp) rfl ⟨_, rfl, rfl⟩
      · simp only [if_neg h0] at hd ⊢
        repeat' (first | (refine AW.sreg ?_) | (refine AW.reg ?_) | (refine AW.seqv ?_) | (refine AW.blockv ?_) | (show WR _ _ _ (⟨_, _, none⟩ :: _) _ _; refine WR.x1 rfl rfl (by (try simp (disch := omega) only [go_sem, hlen]); first | done | with_reducible rfl) ?_) | (refine WR.nil ?_; try dsimp only) | (show WR _ _ _ (⟨_, .call _ _, _⟩ :: _) _ _; first | refine' WR.cL rfl (hd) (by (try simp (disch := omega) only [go_sem, hlen]); first | done | with_reducible rfl) ?_ (by (try simp (disch := omega) only [go_sem, hlen]); first | done | with_reducible rfl) (by (try simp (disch := omega) only [go_sem, hlen]); first | done | with_reducible rfl) (by decide) ?_ (fun cap => ?_)) | (refine AW.skip ?_) | (refine AW.ret ?_) | (refine SeqQ.n ?_) | (refine SeqQ.r ?_) | (refine AW.exit ?_) | (refine SeqQ.e ?_) | (refine BlkQ.n ?_) | (refine BlkQ.r ?_) | (refine BlkQ.e ?_) | (refine BlkQ.o (by decide) ?_) | (refine RndQ.r ?_) | (refine RndQ.e ?_) | (first | show _ = _ | show gOK _ _ _ | (intro _; show _ = _)); ((try simp (disch := omega) only [go_sem, hlen]); first | done | with_reducible rfl) | ((first | refine AW.cond (by (try simp (disch := omega) only [go_sem, hlen]); first | done | with_reducible rfl) (fun hc => ?_) (fun hc => ?_)) <;> try simp only [go_sem] at hc <;> try first | exact absurd trivial hc | (exfalso; omega)))
        exact Fin.ret (by simp) rfl ⟨_, rfl, rfl⟩
  · rintro av o ⟨cap, rfl, rfl⟩
    unfold madeV
    generalize addL [] L.flatten = R
    have e1 : (R.map Run.e).take R.length = R.map Run.e := List.take_of_length_le (by simp)
    by_cases h0 : doneE R = 0
    · simp [h0, idsV, idsT, idsC, frzIds, hpGet, frzV, frzC, frzT, killV, killT, killC, Cel.keep, e1]
    · simp [h0, idsV, idsT, idsC, frzIds, hpGet, frzV, frzC, frzT, killV, killT, killC, Cel.keep]
end Go.Proofs.Ytginjcpblgpcoaa
