/- Lists that are being made. Conditions: none. -/
import Derived.Test.YtginjcpblgpcoaaBo
namespace Go.Proofs.Ytginjcpblgpcoaa
set_option maxRecDepth 4000
set_option linter.unusedSimpArgs false
set_option linter.unusedVariables false
attribute [local irreducible] AW WR Gh AC AWL
variable {G : Glob}
attribute [local go_sem] rn Run.v Run.e runsV
/-- a run at the end of others -/
def addR (R : List Run) (r : Run) : List Run :=
  match R.getLast? with
  | some q => if joinsB q r then R.dropLast ++ [⟨q.s, q.n + r.n⟩] else R ++ [r]
  | none => [r]
theorem addR_nil (r : Run) : addR [] r = [r] := rfl
theorem addR_snoc (R : List Run) (q r : Run) : addR (R ++ [q]) r = if joinsB q r then R ++ [⟨q.s, q.n + r.n⟩] else R ++ [q] ++ [r] := by simp [addR]
structure Good (R : List Run) : Prop where
  el : ∀ q ∈ R, -1 ≤ q.s ∧ q.s ≤ 1000 ∧ 0 ≤ q.n
  sum : lenR R ≤ 1000000000
  len : R.length ≤ 1000000
theorem lenR_app (a b : List Run) : lenR (a ++ b) = lenR a + lenR b := by simp [lenR]
theorem lenR_nonneg (R : List Run) (h : ∀ q ∈ R, 0 ≤ q.n) : 0 ≤ lenR R := by
  induction R with
  | nil => simp [lenR]
  | cons r l ih =>
    have h1 := h r List.mem_cons_self
    have h2 := ih (fun r hr => h r (List.mem_cons_of_mem _ hr))
    have e1 : lenR (r :: l) = r.n + lenR l := by simp [lenR]
    omega
theorem Good.last {R : List Run} {q : Run} (h : Good (R ++ [q])) : -1 ≤ q.s ∧ q.s ≤ 1000 ∧ 0 ≤ q.n ∧ q.n ≤ 1000000000 := by
  have h1 := h.el q (by simp)
  have h2 := h.sum
  have h3 := lenR_nonneg R (fun q hq => (h.el q (by simp [hq])).2.2)
  rw [lenR_app] at h2
  have h4 : lenR [q] = q.n := by simp [lenR]
  omega
theorem addR_len (R : List Run) (r : Run) : lenR (addR R r) = lenR R + r.n := by
  rcases List.eq_nil_or_concat R with rfl | ⟨R', q, rfl⟩
  · simp [addR, lenR]
  · rw [List.concat_eq_append, addR_snoc]
    split
    · simp [lenR_app, lenR]; omega
    · simp [lenR_app, lenR]; omega
theorem add_q (R : List Run) (r : Run) (cap : Nat) (hg : Good R) (hr : -1 ≤ r.s ∧ r.s ≤ 1000 ∧ 0 ≤ r.n ∧ r.n ≤ 1000000000) :
    AC Try.prog G 78 [.one (.ptr 0 0), r.v] [.box [.bld 1 R.length], .arr cap 2 (R.map Run.e)] fun av os => av = .tup [] ∧ ∃ cap', os = [.box [.bld 1 (addR R r).length], .arr cap' 2 ((addR R r).map Run.e)] := by
  refine AC.drop ?_
  (refine AC.of_codeJ Try.func78 Try.ntmps78 c78_ok r78_ok ?_; unfold c78; simp only [List.length_cons, List.length_nil, List.cons_append, List.nil_append, junks, Nat.reduceAdd, Nat.reduceSub])
  rcases List.eq_nil_or_concat R with rfl | ⟨R', q, hR⟩
  · repeat' (first | (refine AW.sreg ?_) | (refine AW.reg ?_) | (refine AW.seqv ?_) | (refine AW.sdrawn ?_) | (refine AW.drawnv ?_) | (show WR _ _ _ (⟨_, _, none⟩ :: _) _ _; refine WR.x1 rfl rfl (by (try simp (disch := omega) only [go_sem, addR_nil]); first | done | with_reducible rfl) ?_) | (show AWL _ _ _ _ ((_, ⟨_, _, none⟩) :: _) _; refine WD.x1 rfl rfl (by (try simp (disch := omega) only [go_sem, addR_nil]); first | done | with_reducible rfl) ?_) | (refine WR.nil ?_; try dsimp only) | (refine WD.nil ?_; try dsimp only) | (show AWL _ _ _ _ ((_, ⟨_, _, some _⟩) :: _) _; refine WD.xk rfl (by (try simp (disch := omega) only [go_sem, addR_nil]); first | done | with_reducible rfl) ?_) | (show WR _ _ _ (⟨_, .app _ _ _ _ _, _⟩ :: _) _ _; first | refine WR.app (by (try simp (disch := omega) only [go_sem, addR_nil]); first | done | with_reducible rfl) rfl (by (try simp (disch := omega) only [go_sem, addR_nil]); first | done | with_reducible rfl) (by (try simp (disch := omega) only [go_sem, addR_nil]); first | done | with_reducible rfl) (by (try simp only [go_sem, List.length_append, List.length_map, List.length_cons, List.length_nil]); first | done | omega) (by (try simp (disch := omega) only [go_sem, addR_nil]); first | done | with_reducible rfl) (by first | assumption | (simp; done) | (intro e he; simp at he; grind)) (by (try simp only [go_sem, List.length_append, List.length_map, List.length_cons, List.length_nil]); first | done | omega) (fun cap hcap => ?_) | refine WR.appNil (by (try simp (disch := omega) only [go_sem, addR_nil]); first | done | with_reducible rfl) rfl (by (try simp (disch := omega) only [go_sem, addR_nil]); first | done | with_reducible rfl) (by (try simp (disch := omega) only [go_sem, addR_nil]); first | done | with_reducible rfl) (by first | assumption | (simp; done) | (intro e he; simp at he; grind)) (by (try simp only [go_sem, List.length_append, List.length_map, List.length_cons, List.length_nil]); first | done | omega) (fun cap hcap => ?_)) | (show AWL _ _ _ _ ((_, ⟨_, .app _ _ _ _ _, _⟩) :: _) _; first | refine WD.app (by (try simp (disch := omega) only [go_sem, addR_nil]); first | done | with_reducible rfl) rfl (by (try simp (disch := omega) only [go_sem, addR_nil]); first | done | with_reducible rfl) (by (try simp (disch := omega) only [go_sem, addR_nil]); first | done | with_reducible rfl) (by (try simp only [go_sem, List.length_append, List.length_map, List.length_cons, List.length_nil]); first | done | omega) (by (try simp (disch := omega) only [go_sem, addR_nil]); first | done | with_reducible rfl) (by first | assumption | (simp; done) | (intro e he; simp at he; grind)) (by (try simp only [go_sem, List.length_append, List.length_map, List.length_cons, List.length_nil]); first | done | omega) (fun cap hcap => ?_) | refine WD.appNil (by (try simp (disch := omega) only [go_sem, addR_nil]); first | done | with_reducible rfl) rfl (by (try simp (disch := omega) only [go_sem, addR_nil]); first | done | with_reducible rfl) (by (try simp (disch := omega) only [go_sem, addR_nil]); first | done | with_reducible rfl) (by first | assumption | (simp; done) | (intro e he; simp at he; grind)) (by (try simp only [go_sem, List.length_append, List.length_map, List.length_cons, List.length_nil]); first | done | omega) (fun cap hcap => ?_)) | (show AWL _ _ _ _ ((_, ⟨_, .bslc _ _ _ _, _⟩) :: _) _; refine' WD.bs ?_ rfl (by (try simp (disch := omega) only [go_sem, addR_nil]); first | done | with_reducible rfl) ?_) | (refine AW.skip ?_) | (refine AW.ret ?_) | (refine SeqQ.n ?_) | (refine SeqQ.r ?_) | (first | show _ = _ | show gOK _ _ _ | (intro _; show _ = _)); ((try simp (disch := omega) only [go_sem, addR_nil]); first | done | with_reducible rfl) | ((first | refine AW.cond (by (try simp (disch := omega) only [go_sem, addR_nil]); first | done | with_reducible rfl) (fun hc => ?_) (fun hc => ?_) | (refine WD.splitS rfl (by (try simp (disch := omega) only [go_sem, addR_nil]); first | done | with_reducible rfl) (by (try simp (disch := omega) only [go_sem, addR_nil]); first | done | with_reducible rfl) (by (try simp (disch := omega) only [go_sem, addR_nil]); first | done | with_reducible rfl) (fun hc => ?_) (fun hc => ?_); fail_if_success (with_reducible have hz : true = true := hc); fail_if_success (with_reducible have hz : false = true := hc))) <;> try simp only [go_sem] at hc <;> try first | exact absurd trivial hc | (exfalso; omega)))
    exact Fin.normal (by simp) rfl ⟨rfl, cap, rfl⟩
  · rw [List.concat_eq_append] at hR
    have hq := (hR ▸ hg).last
    have hl := hg.len
    have hn : R.length = R'.length + 1 := by rw [hR]; simp
    have hi : ((R.length : Int) - 1).toNat = R.length - 1 := by omega
    have hget : R[R.length - 1]? = some q := by rw [hn, hR]; simp
    have htk : (R.map Run.e).take R.length = R.map Run.e := List.take_of_length_le (by simp)
    have hset : (R.map Run.e).set (R.length - 1) [.raw (.int .i64 q.s), .raw (.int .i64 (q.n + r.n))] = (R' ++ [(⟨q.s, q.n + r.n⟩ : Run)]).map Run.e := by
      rw [hn, hR]; simp [Run.e, ci]
    have ha := addR_snoc R' q r
    rw [← hR] at ha
    have hnn : R.length = (R' ++ [(⟨q.s, q.n + r.n⟩ : Run)]).length := by simp [hn]
    repeat' (first | (refine AW.sreg ?_) | (refine AW.reg ?_) | (refine AW.seqv ?_) | (refine AW.sdrawn ?_) | (refine AW.drawnv ?_) | (show WR _ _ _ (⟨_, _, none⟩ :: _) _ _; refine WR.x1 rfl rfl (by (try simp (disch := omega) only [go_sem, hi, hget, htk]); first | done | with_reducible rfl) ?_) | (show AWL _ _ _ _ ((_, ⟨_, _, none⟩) :: _) _; refine WD.x1 rfl rfl (by (try simp (disch := omega) only [go_sem, hi, hget, htk]); first | done | with_reducible rfl) ?_) | (refine WR.nil ?_; try dsimp only) | (refine WD.nil ?_; try dsimp only) | (show AWL _ _ _ _ ((_, ⟨_, _, some _⟩) :: _) _; refine WD.xk rfl (by (try simp (disch := omega) only [go_sem, hi, hget, htk]); first | done | with_reducible rfl) ?_) | (show WR _ _ _ (⟨_, .app _ _ _ _ _, _⟩ :: _) _ _; first | refine WR.app (by (try simp (disch := omega) only [go_sem, hi, hget, htk]); first | done | with_reducible rfl) rfl (by (try simp (disch := omega) only [go_sem, hi, hget, htk]); first | done | with_reducible rfl) (by (try simp (disch := omega) only [go_sem, hi, hget, htk]); first | done | with_reducible rfl) (by (try simp only [go_sem, List.length_append, List.length_map, List.length_cons, List.length_nil]); first | done | omega) (by (try simp (disch := omega) only [go_sem, hi, hget, htk]); first | done | with_reducible rfl) (by first | assumption | (simp; done) | (intro e he; simp at he; grind)) (by (try simp only [go_sem, List.length_append, List.length_map, List.length_cons, List.length_nil]); first | done | omega) (fun cap hcap => ?_) | refine WR.appNil (by (try simp (disch := omega) only [go_sem, hi, hget, htk]); first | done | with_reducible rfl) rfl (by (try simp (disch := omega) only [go_sem, hi, hget, htk]); first | done | with_reducible rfl) (by (try simp (disch := omega) only [go_sem, hi, hget, htk]); first | done | with_reducible rfl) (by first | assumption | (simp; done) | (intro e he; simp at he; grind)) (by (try simp only [go_sem, List.length_append, List.length_map, List.length_cons, List.length_nil]); first | done | omega) (fun cap hcap => ?_)) | (show AWL _ _ _ _ ((_, ⟨_, .app _ _ _ _ _, _⟩) :: _) _; first | refine WD.app (by (try simp (disch := omega) only [go_sem, hi, hget, htk]); first | done | with_reducible rfl) rfl (by (try simp (disch := omega) only [go_sem, hi, hget, htk]); first | done | with_reducible rfl) (by (try simp (disch := omega) only [go_sem, hi, hget, htk]); first | done | with_reducible rfl) (by (try simp only [go_sem, List.length_append, List.length_map, List.length_cons, List.length_nil]); first | done | omega) (by (try simp (disch := omega) only [go_sem, hi, hget, htk]); first | done | with_reducible rfl) (by first | assumption | (simp; done) | (intro e he; simp at he; grind)) (by (try simp only [go_sem, List.length_append, List.length_map, List.length_cons, List.length_nil]); first | done | omega) (fun cap hcap => ?_) | refine WD.appNil (by (try simp (disch := omega) only [go_sem, hi, hget, htk]); first | done | with_reducible rfl) rfl (by (try simp (disch := omega) only [go_sem, hi, hget, htk]); first | done | with_reducible rfl) (by (try simp (disch := omega) only [go_sem, hi, hget, htk]); first | done | with_reducible rfl) (by first | assumption | (simp; done) | (intro e he; simp at he; grind)) (by (try simp only [go_sem, List.length_append, List.length_map, List.length_cons, List.length_nil]); first | done | omega) (fun cap hcap => ?_)) | (show AWL _ _ _ _ ((_, ⟨_, .bslc _ _ _ _, _⟩) :: _) _; refine' WD.bs ?_ rfl (by (try simp (disch := omega) only [go_sem, hi, hget, htk]); first | done | with_reducible rfl) ?_) | (show WR _ _ _ (⟨_, .call _ _, _⟩ :: _) _ _; first | refine' WR.cQ rfl (joins_q q r (by omega)) (by (try simp (disch := omega) only [go_sem, hi, hget, htk]); first | done | with_reducible rfl) ?_ ?_ ?_ ?_) | (show AWL _ _ _ _ ((_, ⟨_, .call _ _, _⟩) :: _) _; first | refine' WD.cQ rfl (joins_q q r (by omega)) (fun _ => (by (try simp (disch := omega) only [go_sem, hi, hget, htk]); first | done | with_reducible rfl)) ?_ ?_ ?_ ?_) | (refine AW.skip ?_) | (refine AW.ret ?_) | (refine SeqQ.n ?_) | (refine SeqQ.r ?_) | (first | show _ = _ | show gOK _ _ _ | (intro _; show _ = _)); ((try simp (disch := omega) only [go_sem, hi, hget, htk]); first | done | with_reducible rfl) | ((first | refine AW.cond (by (try simp (disch := omega) only [go_sem, hi, hget, htk]); first | done | with_reducible rfl) (fun hc => ?_) (fun hc => ?_) | (refine WD.splitS rfl (by (try simp (disch := omega) only [go_sem, hi, hget, htk]); first | done | with_reducible rfl) (by (try simp (disch := omega) only [go_sem, hi, hget, htk]); first | done | with_reducible rfl) (by (try simp (disch := omega) only [go_sem, hi, hget, htk]); first | done | with_reducible rfl) (fun hc => ?_) (fun hc => ?_); fail_if_success (with_reducible have hz : true = true := hc); fail_if_success (with_reducible have hz : false = true := hc))) <;> try simp only [go_sem] at hc <;> try first | exact absurd trivial hc | (exfalso; omega)))
    · rw [ha, if_pos ‹_›, ← hnn]
      simp only [hset]
      exact Fin.ret (by simp) rfl ⟨rfl, cap, rfl⟩
    · rw [ha, if_neg (by simp [*])]
      exact Fin.normal (by simp) rfl ⟨rfl, cap, by simp [Run.e, ci, killO, killC, Cel.keep]⟩
def intoL (U : List Bool) (l : List Run) : List Bool := l.foldl (fun U r => r.into U) U
theorem intoL_len (U : List Bool) (l : List Run) : (intoL U l).length = U.length := by
  induction l generalizing U with
  | nil => rfl
  | cons r l ih => show (intoL (r.into U) l).length = _; rw [ih, into_len]
theorem intoL_take (U : List Bool) (l : List Run) (k : Nat) (h : k < l.length) : intoL U (l.take (k + 1)) = l[k].into (intoL U (l.take k)) := by
  rw [List.take_succ_eq_append_getElem h, intoL, List.foldl_append]; rfl
theorem takeAll_q (U : List Bool) (l : List Run) (hU : U.length = 512) (hl : l.length ≤ 1000) (hr : ∀ r ∈ l, rangeE r.s r.n = 0) :
    AC Try.prog G 55 [.one (.ptr 0 0), runsV l] [bx U] fun av os => av = .tup [] ∧ os = [bx (intoL U l)] := by
  refine AC.drop ?_
  (refine AC.of_codeJ Try.func55 Try.ntmps55 c55_ok r55_ok ?_; unfold c55; simp only [List.length_cons, List.length_nil, List.cons_append, List.nil_append, junks, Nat.reduceAdd, Nat.reduceSub])
  repeat' (first | (refine AW.sreg ?_) | (refine AW.reg ?_) | (refine AW.seqv ?_) | (refine AW.blockv ?_) | (show WR _ _ _ (⟨_, _, none⟩ :: _) _ _; refine WR.x1 rfl rfl (by (try simp (disch := omega) only [go_sem]); first | done | with_reducible rfl) ?_) | (refine WR.nil ?_; try dsimp only) | (refine AW.skip ?_) | (refine AW.ret ?_) | (refine SeqQ.n ?_) | (refine SeqQ.r ?_) | (refine AW.exit ?_) | (refine SeqQ.e ?_) | (refine BlkQ.n ?_) | (refine BlkQ.r ?_) | (refine BlkQ.e ?_) | (refine BlkQ.o (by decide) ?_) | (refine RndQ.r ?_) | (refine RndQ.e ?_) | (first | show _ = _ | show gOK _ _ _ | (intro _; show _ = _)); ((try simp (disch := omega) only [go_sem]); first | done | with_reducible rfl))
  refine AW.loopG (fun k : Nat => ⟨[.one (.ptr 0 0), .junk, .junk, .junk, .junk, .junk, runsV l, vi l.length, vi k, .junk, .junk, .junk, .junk, .junk, .junk, .junk], [bx (intoL U (l.take k))]⟩) (fun k => k ≤ l.length) (fun k => l.length - k) 0 (Nat.zero_le _) (Gh.sle (by repeat' (first | exact sle_nil | refine sle_cons (VLe.refl _) ?_ | refine sle_cons (VLe.junk _) ?_)) rfl) (fun k hk => ?_)
  by_cases hk' : k < l.length
  · have h0 : (intoL U (l.take k)).length = 512 := by rw [intoL_len, hU]
    repeat' (first | (refine AW.sreg ?_) | (refine AW.reg ?_) | (refine AW.seqv ?_) | (refine AW.blockv ?_) | (show WR _ _ _ (⟨_, _, none⟩ :: _) _ _; refine WR.x1 rfl rfl (by (try simp (disch := omega) only [go_sem]); first | done | with_reducible rfl) ?_) | (refine WR.nil ?_; try dsimp only) | (show WR _ _ _ (⟨_, .call _ _, _⟩ :: _) _ _; first | refine' WR.cB rfl (take_any (intoL U (l.take k)) l[k] h0 (hr _ (List.getElem_mem hk'))) (by (try simp (disch := omega) only [go_sem]); first | done | with_reducible rfl) ?_ (by (try simp (disch := omega) only [go_sem]); first | done | with_reducible rfl) rfl (by first | exact flat_bx _ | exact Flat.arr _ _ _ | exact Flat.boxdc (by simp)) (by first | exact flat_bx _ | exact Flat.arr _ _ _ | exact Flat.boxdc (by simp)) ?_ ?_ ?_) | (refine AW.skip ?_) | (refine AW.ret ?_) | (refine SeqQ.n ?_) | (refine SeqQ.r ?_) | (refine AW.exit ?_) | (refine SeqQ.e ?_) | (refine BlkQ.n ?_) | (refine BlkQ.r ?_) | (refine BlkQ.e ?_) | (refine BlkQ.o (by decide) ?_) | (refine RndQ.r ?_) | (refine RndQ.e ?_) | (first | show _ = _ | show gOK _ _ _ | (intro _; show _ = _)); ((try simp (disch := omega) only [go_sem]); first | done | with_reducible rfl) | ((first | refine AW.cond (by (try simp (disch := omega) only [go_sem]); first | done | with_reducible rfl) (fun hc => ?_) (fun hc => ?_)) <;> try simp only [go_sem] at hc <;> try first | exact absurd trivial hc | (exfalso; omega)))
    rw [← intoL_take U l k hk']
    exact RndQ.n (k+1) (by omega) (by omega) (Gh.dropS 1 (by simp) (by simp only [go_sem, Nat.reduceLeDiff, Nat.reduceEqDiff, decide_true, decide_false]; repeat' (first | exact sle_nil | (with_reducible refine sle_cons (VLe.refl _) ?_) | refine sle_cons (VLe.junk _) ?_ | refine sle_cons (VLe.int (by omega)) ?_ | refine sle_cons (VLe.refl _) ?_)) (congrArg (· :: []) (kill_bx _ _)))
  · have hk2 : k = l.length := by omega
    subst hk2
    repeat' (first | (refine AW.sreg ?_) | (refine AW.reg ?_) | (refine AW.seqv ?_) | (refine AW.blockv ?_) | (show WR _ _ _ (⟨_, _, none⟩ :: _) _ _; refine WR.x1 rfl rfl (by (try simp (disch := omega) only [go_sem]); first | done | with_reducible rfl) ?_) | (refine WR.nil ?_; try dsimp only) | (refine AW.skip ?_) | (refine AW.ret ?_) | (refine SeqQ.n ?_) | (refine SeqQ.r ?_) | (refine AW.exit ?_) | (refine SeqQ.e ?_) | (refine BlkQ.n ?_) | (refine BlkQ.r ?_) | (refine BlkQ.e ?_) | (refine BlkQ.o (by decide) ?_) | (refine RndQ.r ?_) | (refine RndQ.e ?_) | (first | show _ = _ | show gOK _ _ _ | (intro _; show _ = _)); ((try simp (disch := omega) only [go_sem]); first | done | with_reducible rfl) | ((first | refine AW.cond (by (try simp (disch := omega) only [go_sem]); first | done | with_reducible rfl) (fun hc => ?_) (fun hc => ?_)) <;> try simp only [go_sem] at hc <;> try first | exact absurd trivial hc | (exfalso; omega)))
    exact Fin.normal (by simp) rfl ⟨rfl, by rw [List.take_length]; exact congrArg (· :: []) (kill_bx _ _)⟩
end Go.Proofs.Ytginjcpblgpcoaa
