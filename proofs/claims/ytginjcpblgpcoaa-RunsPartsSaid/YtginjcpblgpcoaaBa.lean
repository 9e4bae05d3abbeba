/- The small functions of the chapter, and of runs. Conditions: none. -/
import Derived.Test.YtginjcpblgpcoaaMb
namespace Go.Proofs.Ytginjcpblgpcoaa
set_option maxRecDepth 4000
set_option linter.unusedSimpArgs false
set_option linter.unusedVariables false
attribute [local irreducible] AW WR Gh AC AWL
variable {G : Glob}
def rn (s n : Int) : AV := .agg [.dc (ci s), .dc (ci n)]
structure Run where
  s : Int
  n : Int
def Run.e (r : Run) : List DC := [ci r.s, ci r.n]
def Run.v (r : Run) : AV := rn r.s r.n
def runsV (l : List Run) : AV := vl (l.map Run.e)
def lenR (l : List Run) : Int := (l.map Run.n).sum

theorem lenR_take (l : List Run) (k : Nat) (hk : k < l.length) : lenR (l.take (k + 1)) = lenR (l.take k) + l[k].n := by
  rw [List.take_succ_eq_append_getElem hk]
  simp only [lenR, List.map_append, List.sum_append, List.map_cons, List.map_nil, List.sum_cons, List.sum_nil, Int.add_zero]
theorem lenR_bound (l : List Run) (hb : ∀ r ∈ l, 0 ≤ r.n ∧ r.n ≤ 5000) : 0 ≤ lenR l ∧ lenR l ≤ 5000 * l.length := by
  induction l with
  | nil => simp [lenR]
  | cons r l ih =>
    have h1 := hb r List.mem_cons_self
    have h2 := ih (fun r hr => hb r (List.mem_cons_of_mem _ hr))
    have e1 : lenR (r :: l) = r.n + lenR l := by simp [lenR]
    simp only [List.length_cons]
    omega
attribute [local go_sem] rn Run.v Run.e runsV
theorem within_q (n lo hi : Int) : QC Try.prog G 77 [vi n, vi lo, vi hi] (vb (decide (lo ≤ n) && decide (n ≤ hi))) := by
  (refine QC.drop ?_ rfl; refine AC.nz ?_; refine AC.of_codeJ Try.func77 Try.ntmps77 c77_ok r77_ok ?_; unfold c77; simp only [List.length_cons, List.length_nil, List.cons_append, List.nil_append, junks, Nat.reduceAdd, Nat.reduceSub])
  repeat' (first | (refine AW.sreg ?_) | (refine AW.reg ?_) | (refine AW.seqv ?_) | (show WR _ _ _ (⟨_, _, none⟩ :: _) _ _; refine WR.x1 rfl rfl (by (try simp (disch := omega) only [go_sem]); first | done | with_reducible rfl) ?_) | (refine WR.nil ?_; try dsimp only) | (show WR _ _ _ (⟨_, _, some _⟩ :: _) _ _; refine WR.xk rfl (by (try simp (disch := omega) only [go_sem]); first | done | with_reducible rfl) ?_) | (refine AW.skip ?_) | (refine AW.ret ?_) | (refine SeqQ.n ?_) | (refine SeqQ.r ?_) | (first | show _ = _ | show gOK _ _ _ | (intro _; show _ = _)); ((try simp (disch := omega) only [go_sem]); first | done | with_reducible rfl) | ((first | refine AW.cond (by (try simp (disch := omega) only [go_sem]); first | done | with_reducible rfl) (fun hc => ?_) (fun hc => ?_) | (refine WR.splitS rfl (by (try simp (disch := omega) only [go_sem]); first | done | with_reducible rfl) (by (try simp (disch := omega) only [go_sem]); first | done | with_reducible rfl) (by (try simp (disch := omega) only [go_sem]); first | done | with_reducible rfl) (fun hc => ?_) (fun hc => ?_); fail_if_success (with_reducible have hz : true = true := hc); fail_if_success (with_reducible have hz : false = true := hc))) <;> try simp only [go_sem] at hc <;> try first | exact absurd trivial hc | (exfalso; omega)))
  all_goals (refine Fin.ret (by first | exact Nat.zero_le _ | simp) rfl ?_; (try simp (disch := omega) only [go_sem, *]); first | done | with_reducible rfl | (simp [*]; done) | (simp [*]; grind) | rfl)
theorem isHole_q (s n : Int) : QC Try.prog G 49 [rn s n] (vb (decide (s = -1))) := by
  (refine QC.drop ?_ rfl; refine AC.nz ?_; refine AC.of_codeJ Try.func49 Try.ntmps49 c49_ok r49_ok ?_; unfold c49; simp only [List.length_cons, List.length_nil, List.cons_append, List.nil_append, junks, Nat.reduceAdd, Nat.reduceSub])
  repeat' (first | (refine AW.sreg ?_) | (refine AW.reg ?_) | (refine AW.seqv ?_) | (show WR _ _ _ (⟨_, _, none⟩ :: _) _ _; refine WR.x1 rfl rfl (by (try simp (disch := omega) only [go_sem]); first | done | with_reducible rfl) ?_) | (refine WR.nil ?_; try dsimp only) | (refine AW.skip ?_) | (refine AW.ret ?_) | (refine SeqQ.n ?_) | (refine SeqQ.r ?_) | (first | show _ = _ | show gOK _ _ _ | (intro _; show _ = _)); ((try simp (disch := omega) only [go_sem]); first | done | with_reducible rfl) | ((first | refine AW.cond (by (try simp (disch := omega) only [go_sem]); first | done | with_reducible rfl) (fun hc => ?_) (fun hc => ?_)) <;> try simp only [go_sem] at hc <;> try first | exact absurd trivial hc | (exfalso; omega)))
  all_goals (refine Fin.ret (by first | exact Nat.zero_le _ | simp) rfl ?_; (try simp (disch := omega) only [go_sem]); first | done | with_reducible rfl | (simp []; done) | (simp []; grind) | rfl)
theorem few_q (l : List (List DC)) : QC Try.prog G 10 [vl l] (vb (decide ((l.length : Int) ≤ 80))) := by
  (refine QC.drop ?_ rfl; refine AC.nz ?_; refine AC.of_codeJ Try.func10 Try.ntmps10 c10_ok r10_ok ?_; unfold c10; simp only [List.length_cons, List.length_nil, List.cons_append, List.nil_append, junks, Nat.reduceAdd, Nat.reduceSub])
  repeat' (first | (refine AW.sreg ?_) | (refine AW.reg ?_) | (refine AW.seqv ?_) | (show WR _ _ _ (⟨_, _, none⟩ :: _) _ _; refine WR.x1 rfl rfl (by (try simp (disch := omega) only [go_sem]); first | done | with_reducible rfl) ?_) | (refine WR.nil ?_; try dsimp only) | (refine AW.skip ?_) | (refine AW.ret ?_) | (refine SeqQ.n ?_) | (refine SeqQ.r ?_) | (first | show _ = _ | show gOK _ _ _ | (intro _; show _ = _)); ((try simp (disch := omega) only [go_sem]); first | done | with_reducible rfl) | ((first | refine AW.cond (by (try simp (disch := omega) only [go_sem]); first | done | with_reducible rfl) (fun hc => ?_) (fun hc => ?_)) <;> try simp only [go_sem] at hc <;> try first | exact absurd trivial hc | (exfalso; omega)))
  all_goals (refine Fin.ret (by first | exact Nat.zero_le _ | simp) rfl ?_; (try simp (disch := omega) only [go_sem]); first | done | with_reducible rfl | (simp []; done) | (simp []; grind) | rfl)
theorem unless_q (b : Bool) (n : Int) : QC Try.prog G 48 [vb b, vi n] (vi (if b then 0 else n)) := by
  (refine QC.drop ?_ rfl; refine AC.nz ?_; refine AC.of_codeJ Try.func48 Try.ntmps48 c48_ok r48_ok ?_; unfold c48; simp only [List.length_cons, List.length_nil, List.cons_append, List.nil_append, junks, Nat.reduceAdd, Nat.reduceSub])
  repeat' (first | (refine AW.sreg ?_) | (refine AW.reg ?_) | (refine AW.seqv ?_) | (show WR _ _ _ (⟨_, _, none⟩ :: _) _ _; refine WR.x1 rfl rfl (by (try simp (disch := omega) only [go_sem]); first | done | with_reducible rfl) ?_) | (refine WR.nil ?_; try dsimp only) | (refine AW.skip ?_) | (refine AW.ret ?_) | (refine SeqQ.n ?_) | (refine SeqQ.r ?_) | (first | show _ = _ | show gOK _ _ _ | (intro _; show _ = _)); ((try simp (disch := omega) only [go_sem]); first | done | with_reducible rfl) | ((first | refine AW.cond (by (try simp (disch := omega) only [go_sem]); first | done | with_reducible rfl) (fun hc => ?_) (fun hc => ?_)) <;> try simp only [go_sem] at hc <;> try first | exact absurd trivial hc | (exfalso; omega)))
  all_goals (refine Fin.ret (by first | exact Nat.zero_le _ | simp) rfl ?_; (try simp (disch := omega) only [go_sem, *]); first | done | with_reducible rfl | (simp [*]; done) | (simp [*]; grind) | rfl)
def rangeE (s n : Int) : Int := if s = -1 then (if 1 ≤ n ∧ n ≤ 4096 then 0 else 2) else if 0 ≤ s ∧ s ≤ 511 then (if 1 ≤ n ∧ n ≤ 512 - s then 0 else 2) else 2
theorem copyRuns_q (l : List (List DC)) (hl : ∀ e ∈ l, e.length = 2) (hb : l.length * 16 ≤ 140737488355328) : QC Try.prog G 12 [vl l] (vl l) := by
  refine QC.frz (R := fun av o => ∃ cap, av = .one (.bld 0 l.length) ∧ o = [.arr cap 2 l]) ?_ ?_
  · (refine AC.of_codeJ Try.func12 Try.ntmps12 c12_ok r12_ok ?_; unfold c12; simp only [List.length_cons, List.length_nil, List.cons_append, List.nil_append, junks, Nat.reduceAdd, Nat.reduceSub])
    repeat' (first | (refine AW.sreg ?_) | (refine AW.reg ?_) | (refine AW.seqv ?_) | (show WR _ _ _ (⟨_, _, none⟩ :: _) _ _; refine WR.x1 rfl rfl (by (try simp (disch := omega) only [go_sem]); first | done | with_reducible rfl) ?_) | (refine WR.nil ?_; try dsimp only) | (show WR _ _ _ (⟨_, .app _ _ _ _ _, _⟩ :: _) _ _; first | refine WR.app (by (try simp (disch := omega) only [go_sem]); first | done | with_reducible rfl) rfl (by (try simp (disch := omega) only [go_sem]); first | done | with_reducible rfl) (by (try simp (disch := omega) only [go_sem]); first | done | with_reducible rfl) (by (try simp only [go_sem, List.length_append, List.length_map, List.length_cons, List.length_nil]); first | done | omega) (by (try simp (disch := omega) only [go_sem]); first | done | with_reducible rfl) (by first | assumption | (simp; done) | (intro e he; simp at he; grind)) (by (try simp only [go_sem, List.length_append, List.length_map, List.length_cons, List.length_nil]); first | done | omega) (fun cap hcap => ?_) | refine WR.appNil (by (try simp (disch := omega) only [go_sem]); first | done | with_reducible rfl) rfl (by (try simp (disch := omega) only [go_sem]); first | done | with_reducible rfl) (by (try simp (disch := omega) only [go_sem]); first | done | with_reducible rfl) (by first | assumption | (simp; done) | (intro e he; simp at he; grind)) (by (try simp only [go_sem, List.length_append, List.length_map, List.length_cons, List.length_nil]); first | done | omega) (fun cap hcap => ?_)) | (refine AW.skip ?_) | (refine AW.ret ?_) | (refine SeqQ.n ?_) | (refine SeqQ.r ?_) | (first | show _ = _ | show gOK _ _ _ | (intro _; show _ = _)); ((try simp (disch := omega) only [go_sem]); first | done | with_reducible rfl))
    exact Fin.ret (Nat.zero_le _) rfl ⟨_, rfl, rfl⟩
  · rintro av o ⟨cap, rfl, rfl⟩
    simp [idsV, idsC, frzIds, hpGet, frzV, frzC, killV, killC, Cel.keep, vl]
theorem rangeErr_q (s n : Int) : QC Try.prog G 69 [rn s n] (vi (rangeE s n)) := by
  (refine QC.drop ?_ rfl; refine AC.nz ?_; refine AC.of_codeJ Try.func69 Try.ntmps69 c69_ok r69_ok ?_; unfold c69; simp only [List.length_cons, List.length_nil, List.cons_append, List.nil_append, junks, Nat.reduceAdd, Nat.reduceSub])
  repeat' (first | (refine AW.sreg ?_) | (refine AW.reg ?_) | (refine AW.seqv ?_) | (show WR _ _ _ (⟨_, _, none⟩ :: _) _ _; refine WR.x1 rfl rfl (by (try simp (disch := omega) only [go_sem]); first | done | with_reducible rfl) ?_) | (refine WR.nil ?_; try dsimp only) | (show WR _ _ _ (⟨_, .call _ _, _⟩ :: _) _ _; first | refine' WR.cQ rfl (isHole_q _ _) (by (try simp (disch := omega) only [go_sem]); first | done | with_reducible rfl) ?_ ?_ ?_ ?_ | refine' WR.cQ rfl (within_q _ _ _) (by (try simp (disch := omega) only [go_sem]); first | done | with_reducible rfl) ?_ ?_ ?_ ?_ | refine' WR.cQ rfl (unless_q _ _) (by (try simp (disch := omega) only [go_sem]); first | done | with_reducible rfl) ?_ ?_ ?_ ?_) | (refine AW.skip ?_) | (refine AW.ret ?_) | (refine SeqQ.n ?_) | (refine SeqQ.r ?_) | (first | show _ = _ | show gOK _ _ _ | (intro _; show _ = _)); ((try simp (disch := omega) only [go_sem]); first | done | with_reducible rfl) | ((first | refine AW.cond (by (try simp (disch := omega) only [go_sem]); first | done | with_reducible rfl) (fun hc => ?_) (fun hc => ?_)) <;> try simp only [go_sem] at hc <;> try first | exact absurd trivial hc | (exfalso; omega)))
  all_goals (refine Fin.ret (by first | exact Nat.zero_le _ | simp) rfl ?_; (try simp (disch := omega) only [go_sem, rangeE]); first | done | with_reducible rfl | (simp [rangeE]; done) | (simp [rangeE]; grind) | rfl)
/-- the first error of some -/
def firstE : List Int → Int
  | [] => 0
  | e :: l => if e = 0 then firstE l else e
theorem firstE_drop (l : List Int) (k : Nat) (h : ∀ j, j < k → l.getD j 0 = 0) : firstE l = firstE (l.drop k) := by
  induction k generalizing l with
  | zero => rfl
  | succ k ih =>
    cases l with
    | nil => rfl
    | cons e l =>
      have h0 : e = 0 := by simpa using h 0 (by omega)
      subst h0
      simp only [firstE, if_true, List.drop_succ_cons]
      exact ih l (fun j hj => by simpa using h (j + 1) (by omega))
def el (l : List Int) : List (List DC) := l.map fun e => [ci e]
theorem first_q (l : List Int) (hl : l.length ≤ 1000) : QC Try.prog G 46 [vl (el l)] (vi (firstE l)) := by
  (refine QC.drop ?_ rfl; refine AC.nz ?_; refine AC.of_codeJ Try.func46 Try.ntmps46 c46_ok r46_ok ?_; unfold c46; simp only [List.length_cons, List.length_nil, List.cons_append, List.nil_append, junks, Nat.reduceAdd, Nat.reduceSub])
  have hlen : (el l).length = l.length := by simp [el]
  repeat' (first | (refine AW.sreg ?_) | (refine AW.reg ?_) | (refine AW.seqv ?_) | (refine AW.blockv ?_) | (show WR _ _ _ (⟨_, _, none⟩ :: _) _ _; refine WR.x1 rfl rfl (by (try simp (disch := omega) only [go_sem, hlen]); first | done | with_reducible rfl) ?_) | (refine WR.nil ?_; try dsimp only) | (refine AW.skip ?_) | (refine AW.ret ?_) | (refine SeqQ.n ?_) | (refine SeqQ.r ?_) | (refine AW.exit ?_) | (refine SeqQ.e ?_) | (refine BlkQ.n ?_) | (refine BlkQ.r ?_) | (refine BlkQ.e ?_) | (refine BlkQ.o (by decide) ?_) | (refine RndQ.r ?_) | (refine RndQ.e ?_) | (first | show _ = _ | show gOK _ _ _ | (intro _; show _ = _)); ((try simp (disch := omega) only [go_sem, hlen]); first | done | with_reducible rfl))
  refine AW.loopG (fun k : Nat => ⟨[vl (el l), .junk, vi 0, .junk, .junk, vl (el l), vi l.length, vi k, .junk, .junk, .junk, .junk, .junk, .junk, .junk], []⟩) (fun k => k ≤ l.length ∧ ∀ j, j < k → l.getD j 0 = 0) (fun k => l.length - k) 0 ⟨Nat.zero_le _, fun j h => by omega⟩ (Gh.sle (by repeat' (first | exact sle_nil | refine sle_cons (VLe.refl _) ?_ | refine sle_cons (VLe.junk _) ?_)) rfl) (fun k hk => ?_)
  obtain ⟨hk, hz⟩ := hk
  by_cases hk' : k < l.length
  · have hr : (el l)[k]? = some [ci l[k]] := by simp [el, hk']
    have hf : firstE l = if l[k] = 0 then firstE (l.drop (k + 1)) else l[k] := by
      rw [firstE_drop l k hz, List.drop_eq_getElem_cons hk']; rfl
    repeat' (first | (refine AW.sreg ?_) | (refine AW.reg ?_) | (refine AW.seqv ?_) | (refine AW.blockv ?_) | (show WR _ _ _ (⟨_, _, none⟩ :: _) _ _; refine WR.x1 rfl rfl (by (try simp (disch := omega) only [go_sem, hlen, hr, ci]); first | done | with_reducible rfl) ?_) | (refine WR.nil ?_; try dsimp only) | (refine AW.skip ?_) | (refine AW.ret ?_) | (refine SeqQ.n ?_) | (refine SeqQ.r ?_) | (refine AW.exit ?_) | (refine SeqQ.e ?_) | (refine BlkQ.n ?_) | (refine BlkQ.r ?_) | (refine BlkQ.e ?_) | (refine BlkQ.o (by decide) ?_) | (refine RndQ.r ?_) | (refine RndQ.e ?_) | (first | show _ = _ | show gOK _ _ _ | (intro _; show _ = _)); ((try simp (disch := omega) only [go_sem, hlen, hr, ci]); first | done | with_reducible rfl) | ((first | refine AW.cond (by (try simp (disch := omega) only [go_sem, hlen, hr, ci]); first | done | with_reducible rfl) (fun hc => ?_) (fun hc => ?_)) <;> try simp only [go_sem] at hc <;> try first | exact absurd trivial hc | (exfalso; omega)))
    · rw [if_neg ‹_›] at hf
      (refine Fin.ret (by first | exact Nat.zero_le _ | simp) rfl ?_; (try simp (disch := omega) only [go_sem, hf]); first | done | with_reducible rfl | (simp [hf]; done) | (simp [hf]; grind) | rfl)
    · refine RndQ.n (k+1) ⟨by omega, fun j hj => ?_⟩ (by omega) (Gh.dropS 0 (Nat.le_refl _) (by simp only [go_sem, Nat.reduceLeDiff, Nat.reduceEqDiff, decide_true, decide_false]; repeat' (first | exact sle_nil | (with_reducible refine sle_cons (VLe.refl _) ?_) | refine sle_cons (VLe.junk _) ?_ | refine sle_cons (VLe.int (by omega)) ?_ | refine sle_cons (VLe.refl _) ?_)) rfl)
      by_cases hjk : j < k
      · exact hz j hjk
      · have : j = k := by omega
        subst this
        simp [List.getD_eq_getElem?_getD, hk', *]
  · have hk2 : k = l.length := by omega
    subst hk2
    have hf : firstE l = 0 := by rw [firstE_drop l _ hz]; simp [firstE]
    repeat' (first | (refine AW.sreg ?_) | (refine AW.reg ?_) | (refine AW.seqv ?_) | (refine AW.blockv ?_) | (show WR _ _ _ (⟨_, _, none⟩ :: _) _ _; refine WR.x1 rfl rfl (by (try simp (disch := omega) only [go_sem, hlen]); first | done | with_reducible rfl) ?_) | (refine WR.nil ?_; try dsimp only) | (refine AW.skip ?_) | (refine AW.ret ?_) | (refine SeqQ.n ?_) | (refine SeqQ.r ?_) | (refine AW.exit ?_) | (refine SeqQ.e ?_) | (refine BlkQ.n ?_) | (refine BlkQ.r ?_) | (refine BlkQ.e ?_) | (refine BlkQ.o (by decide) ?_) | (refine RndQ.r ?_) | (refine RndQ.e ?_) | (first | show _ = _ | show gOK _ _ _ | (intro _; show _ = _)); ((try simp (disch := omega) only [go_sem, hlen]); first | done | with_reducible rfl) | ((first | refine AW.cond (by (try simp (disch := omega) only [go_sem, hlen]); first | done | with_reducible rfl) (fun hc => ?_) (fun hc => ?_)) <;> try simp only [go_sem] at hc <;> try first | exact absurd trivial hc | (exfalso; omega)))
    (refine Fin.ret (by first | exact Nat.zero_le _ | simp) rfl ?_; (try simp (disch := omega) only [go_sem, hf]); first | done | with_reducible rfl | (simp [hf]; done) | (simp [hf]; grind) | rfl)
theorem length_q (l : List Run) (hl : l.length ≤ 1000) (hb : ∀ r ∈ l, 0 ≤ r.n ∧ r.n ≤ 5000) : QC Try.prog G 51 [runsV l] (vi (lenR l)) := by
  (refine QC.drop ?_ rfl; refine AC.nz ?_; refine AC.of_codeJ Try.func51 Try.ntmps51 c51_ok r51_ok ?_; unfold c51; simp only [List.length_cons, List.length_nil, List.cons_append, List.nil_append, junks, Nat.reduceAdd, Nat.reduceSub])
  repeat' (first | (refine AW.sreg ?_) | (refine AW.reg ?_) | (refine AW.seqv ?_) | (refine AW.blockv ?_) | (show WR _ _ _ (⟨_, _, none⟩ :: _) _ _; refine WR.x1 rfl rfl (by (try simp (disch := omega) only [go_sem]); first | done | with_reducible rfl) ?_) | (refine WR.nil ?_; try dsimp only) | (refine AW.skip ?_) | (refine AW.ret ?_) | (refine SeqQ.n ?_) | (refine SeqQ.r ?_) | (refine AW.exit ?_) | (refine SeqQ.e ?_) | (refine BlkQ.n ?_) | (refine BlkQ.r ?_) | (refine BlkQ.e ?_) | (refine BlkQ.o (by decide) ?_) | (refine RndQ.r ?_) | (refine RndQ.e ?_) | (first | show _ = _ | show gOK _ _ _ | (intro _; show _ = _)); ((try simp (disch := omega) only [go_sem]); first | done | with_reducible rfl))
  refine AW.loopG (fun k : Nat => ⟨[runsV l, .junk, .junk, vi (lenR (l.take k)), .junk, .junk, runsV l, vi l.length, vi k, .junk, .junk, .junk, .junk, .junk, .junk, .junk, .junk, .junk], []⟩) (fun k => k ≤ l.length) (fun k => l.length - k) 0 (Nat.zero_le _) (Gh.sle (by repeat' (first | exact sle_nil | refine sle_cons (VLe.refl _) ?_ | refine sle_cons (VLe.junk _) ?_)) rfl) (fun k hk => ?_)
  by_cases hk' : k < l.length
  · have hb1 := lenR_bound (l.take k) (fun r hr => hb r (List.mem_of_mem_take hr))
    have hb2 := hb l[k] (List.getElem_mem hk')
    have hlt : (l.take k).length ≤ 1000 := by simp; omega
    have e3 := lenR_take l k hk'
    repeat' (first | (refine AW.sreg ?_) | (refine AW.reg ?_) | (refine AW.seqv ?_) | (refine AW.blockv ?_) | (show WR _ _ _ (⟨_, _, none⟩ :: _) _ _; refine WR.x1 rfl rfl (by (try simp (disch := omega) only [go_sem]); first | done | with_reducible rfl) ?_) | (refine WR.nil ?_; try dsimp only) | (refine AW.skip ?_) | (refine AW.ret ?_) | (refine SeqQ.n ?_) | (refine SeqQ.r ?_) | (refine AW.exit ?_) | (refine SeqQ.e ?_) | (refine BlkQ.n ?_) | (refine BlkQ.r ?_) | (refine BlkQ.e ?_) | (refine BlkQ.o (by decide) ?_) | (refine RndQ.r ?_) | (refine RndQ.e ?_) | (first | show _ = _ | show gOK _ _ _ | (intro _; show _ = _)); ((try simp (disch := omega) only [go_sem]); first | done | with_reducible rfl) | ((first | refine AW.cond (by (try simp (disch := omega) only [go_sem]); first | done | with_reducible rfl) (fun hc => ?_) (fun hc => ?_)) <;> try simp only [go_sem] at hc <;> try first | exact absurd trivial hc | (exfalso; omega)))
    rw [← e3]
    exact RndQ.n (k+1) (by omega) (by omega) (Gh.dropS 0 (Nat.le_refl _) (by simp only [go_sem, Nat.reduceLeDiff, Nat.reduceEqDiff, decide_true, decide_false]; repeat' (first | exact sle_nil | (with_reducible refine sle_cons (VLe.refl _) ?_) | refine sle_cons (VLe.junk _) ?_ | refine sle_cons (VLe.int (by omega)) ?_ | refine sle_cons (VLe.refl _) ?_)) rfl)
  · have hk2 : k = l.length := by omega
    subst hk2
    repeat' (first | (refine AW.sreg ?_) | (refine AW.reg ?_) | (refine AW.seqv ?_) | (refine AW.blockv ?_) | (show WR _ _ _ (⟨_, _, none⟩ :: _) _ _; refine WR.x1 rfl rfl (by (try simp (disch := omega) only [go_sem]); first | done | with_reducible rfl) ?_) | (refine WR.nil ?_; try dsimp only) | (refine AW.skip ?_) | (refine AW.ret ?_) | (refine SeqQ.n ?_) | (refine SeqQ.r ?_) | (refine AW.exit ?_) | (refine SeqQ.e ?_) | (refine BlkQ.n ?_) | (refine BlkQ.r ?_) | (refine BlkQ.e ?_) | (refine BlkQ.o (by decide) ?_) | (refine RndQ.r ?_) | (refine RndQ.e ?_) | (first | show _ = _ | show gOK _ _ _ | (intro _; show _ = _)); ((try simp (disch := omega) only [go_sem]); first | done | with_reducible rfl) | ((first | refine AW.cond (by (try simp (disch := omega) only [go_sem]); first | done | with_reducible rfl) (fun hc => ?_) (fun hc => ?_)) <;> try simp only [go_sem] at hc <;> try first | exact absurd trivial hc | (exfalso; omega)))
    (refine Fin.ret (by first | exact Nat.zero_le _ | simp) rfl ?_; (try simp (disch := omega) only [go_sem, List.take_length]); first | done | with_reducible rfl | (simp [List.take_length]; done) | (simp [List.take_length]; grind) | rfl)
def joinsB (a b : Run) : Bool := (decide (a.s = -1) == decide (b.s = -1)) && (decide (a.s = -1) || decide (a.s + a.n = b.s))
theorem joins_q (a b : Run) (hb : -9223372036854775808 ≤ a.s + a.n ∧ a.s + a.n ≤ 9223372036854775807) : QC Try.prog G 70 [a.v, b.v] (vb (joinsB a b)) := by
  (refine QC.drop ?_ rfl; refine AC.nz ?_; refine AC.of_codeJ Try.func70 Try.ntmps70 c70_ok r70_ok ?_; unfold c70; simp only [List.length_cons, List.length_nil, List.cons_append, List.nil_append, junks, Nat.reduceAdd, Nat.reduceSub])
  repeat' (first | (refine AW.sreg ?_) | (refine AW.reg ?_) | (refine AW.seqv ?_) | (refine AW.sdrawn ?_) | (refine AW.drawnv ?_) | (show WR _ _ _ (⟨_, _, none⟩ :: _) _ _; refine WR.x1 rfl rfl (by (try simp (disch := omega) only [go_sem]); first | done | with_reducible rfl) ?_) | (show AWL _ _ _ _ ((_, ⟨_, _, none⟩) :: _) _; refine WD.x1 rfl rfl (by (try simp (disch := omega) only [go_sem]); first | done | with_reducible rfl) ?_) | (refine WR.nil ?_; try dsimp only) | (refine WD.nil ?_; try dsimp only) | (show AWL _ _ _ _ ((_, ⟨_, _, some _⟩) :: _) _; refine WD.xk rfl (by (try simp (disch := omega) only [go_sem]); first | done | with_reducible rfl) ?_) | (show WR _ _ _ (⟨_, .call _ _, _⟩ :: _) _ _; first | refine' WR.cQ rfl (isHole_q _ _) (by (try simp (disch := omega) only [go_sem]); first | done | with_reducible rfl) ?_ ?_ ?_ ?_) | (show AWL _ _ _ _ ((_, ⟨_, .call _ _, _⟩) :: _) _; first | refine' WD.cQ rfl (isHole_q _ _) (fun _ => (by (try simp (disch := omega) only [go_sem]); first | done | with_reducible rfl)) ?_ ?_ ?_ ?_) | (refine AW.skip ?_) | (refine AW.ret ?_) | (refine SeqQ.n ?_) | (refine SeqQ.r ?_) | (first | show _ = _ | show gOK _ _ _ | (intro _; show _ = _)); ((try simp (disch := omega) only [go_sem]); first | done | with_reducible rfl) | ((first | refine AW.cond (by (try simp (disch := omega) only [go_sem]); first | done | with_reducible rfl) (fun hc => ?_) (fun hc => ?_) | (refine WD.splitS rfl (by (try simp (disch := omega) only [go_sem]); first | done | with_reducible rfl) (by (try simp (disch := omega) only [go_sem]); first | done | with_reducible rfl) (by (try simp (disch := omega) only [go_sem]); first | done | with_reducible rfl) (fun hc => ?_) (fun hc => ?_); fail_if_success (with_reducible have hz : true = true := hc); fail_if_success (with_reducible have hz : false = true := hc))) <;> try simp only [go_sem] at hc <;> try first | exact absurd trivial hc | (exfalso; omega)))
  all_goals (refine Fin.ret (by first | exact Nat.zero_le _ | simp) rfl ?_; (try simp (disch := omega) only [go_sem, joinsB]); first | done | with_reducible rfl | (simp [joinsB]; done) | (simp [joinsB]; grind) | rfl)
end Go.Proofs.Ytginjcpblgpcoaa
