/- Places. Conditions: none. -/
import Derived.Test.YtginjcpblgpcoaaBc
namespace Go.Proofs.Ytginjcpblgpcoaa
set_option maxRecDepth 4000
set_option linter.unusedSimpArgs false
set_option linter.unusedVariables false
attribute [local irreducible] AW WR Gh AC AWL
variable {G : Glob}
theorem refErr_q (l : List Run) (hl : l.length ≤ 1000) : QC Try.prog G 13 [runsV l] (vi (rchk l).2) := by
  (refine QC.drop ?_ rfl; refine AC.nz ?_; refine AC.of_codeJ Try.func13 Try.ntmps13 c13_ok r13_ok ?_; unfold c13; simp only [List.length_cons, List.length_nil, List.cons_append, List.nil_append, junks, Nat.reduceAdd, Nat.reduceSub])
  repeat' (first | (refine AW.sreg ?_) | (refine AW.reg ?_) | (refine AW.seqv ?_) | (show WR _ _ _ (⟨_, _, none⟩ :: _) _ _; refine WR.x1 rfl rfl (by (try simp (disch := omega) only [go_sem, runsV]); first | done | with_reducible rfl) ?_) | (refine WR.nil ?_; try dsimp only) | (show WR _ _ _ (⟨_, .call _ _, _⟩ :: _) _ _; first | refine' WR.cQ rfl (refCheck_q l hl) (by (try simp (disch := omega) only [go_sem, runsV]); first | done | with_reducible rfl) ?_ ?_ ?_ ?_) | (refine AW.skip ?_) | (refine AW.ret ?_) | (refine SeqQ.n ?_) | (refine SeqQ.r ?_) | (first | show _ = _ | show gOK _ _ _ | (intro _; show _ = _)); ((try simp (disch := omega) only [go_sem, runsV]); first | done | with_reducible rfl) | ((first | refine AW.cond (by (try simp (disch := omega) only [go_sem, runsV]); first | done | with_reducible rfl) (fun hc => ?_) (fun hc => ?_)) <;> try simp only [go_sem] at hc <;> try first | exact absurd trivial hc | (exfalso; omega)))
  (refine Fin.ret (by first | exact Nat.zero_le _ | simp) rfl ?_; (try simp (disch := omega) only [go_sem]); first | done | with_reducible rfl | (simp []; done) | (simp []; grind) | rfl)
/-- where a cluster is, and how many there are from there on -/
def atR : List Run → Int → Int
  | [], _ => -1
  | r :: l, a => if a < r.n then (if r.s = -1 then -1 else r.s + a) else atR l (a - r.n)
def leftR : List Run → Int → Int
  | [], _ => 0
  | r :: l, a => if a < r.n then r.n - a else leftR l (a - r.n)
theorem atR_at {l : List Run} {k : Nat} (a : Int) (hk : k < l.length) : atR (l.drop k) a = if a < l[k].n then (if l[k].s = -1 then -1 else l[k].s + a) else atR (l.drop (k + 1)) (a - l[k].n) := by
  rw [List.drop_eq_getElem_cons hk, atR]
theorem leftR_at {l : List Run} {k : Nat} (a : Int) (hk : k < l.length) : leftR (l.drop k) a = if a < l[k].n then l[k].n - a else leftR (l.drop (k + 1)) (a - l[k].n) := by
  rw [List.drop_eq_getElem_cons hk, leftR]
theorem rE_n {r : Run} (h : rangeE r.s r.n = 0) : 1 ≤ r.n ∧ r.n ≤ 4096 ∧ -1 ≤ r.s ∧ r.s ≤ 511 := by
  rcases rangeE_ok h with h | ⟨s, n, h⟩ <;> omega
theorem lenT {l : List Run} {k : Nat} (hl : l.length ≤ 1000) (hr : ∀ r ∈ l, rangeE r.s r.n = 0) : 0 ≤ lenR (l.take k) ∧ lenR (l.take k) ≤ 5000000 := by
  have h := lenR_bound (l.take k) (fun r h => bn_of (hr r (List.mem_of_mem_take h)))
  have : (l.take k).length ≤ 1000 := by simp; omega
  omega
theorem at_q (l : List Run) (a : Int) (hl : l.length ≤ 1000) (hr : ∀ r ∈ l, rangeE r.s r.n = 0) (ha : 0 ≤ a ∧ a ≤ 100000) : QC Try.prog G 50 [runsV l, vi a] (vi (atR l a)) := by
  (refine QC.drop ?_ rfl; refine AC.nz ?_; refine AC.of_codeJ Try.func50 Try.ntmps50 c50_ok r50_ok ?_; unfold c50; simp only [List.length_cons, List.length_nil, List.cons_append, List.nil_append, junks, Nat.reduceAdd, Nat.reduceSub])
  repeat' (first | (refine AW.sreg ?_) | (refine AW.reg ?_) | (refine AW.seqv ?_) | (refine AW.blockv ?_) | (show WR _ _ _ (⟨_, _, none⟩ :: _) _ _; refine WR.x1 rfl rfl (by (try simp (disch := omega) only [go_sem, runsV]); first | done | with_reducible rfl) ?_) | (refine WR.nil ?_; try dsimp only) | (refine AW.skip ?_) | (refine AW.ret ?_) | (refine SeqQ.n ?_) | (refine SeqQ.r ?_) | (refine AW.exit ?_) | (refine SeqQ.e ?_) | (refine BlkQ.n ?_) | (refine BlkQ.r ?_) | (refine BlkQ.e ?_) | (refine BlkQ.o (by decide) ?_) | (refine RndQ.r ?_) | (refine RndQ.e ?_) | (first | show _ = _ | show gOK _ _ _ | (intro _; show _ = _)); ((try simp (disch := omega) only [go_sem, runsV]); first | done | with_reducible rfl))
  refine AW.loopG (fun k : Nat => ⟨[runsV l, vi (a - lenR (l.take k)), .junk, .junk, vi 0, vi k, .junk, .junk, .junk, .junk, .junk, .junk, .junk, .junk, .junk, .junk, .junk, .junk, .junk, .junk, .junk, .junk, .junk, .junk, .junk, .junk, .junk, .junk, .junk, .junk, .junk, .junk, .junk, .junk, .junk, .junk, .junk, .junk, .junk], []⟩)
      (fun k => k ≤ l.length ∧ atR l a = atR (l.drop k) (a - lenR (l.take k))) (fun k => l.length - k) 0 ⟨Nat.zero_le _, by simp [lenR]⟩ (by simp only [List.take_zero, lenR, List.map_nil, List.sum_nil, Int.sub_zero]; exact Gh.sle (by repeat' (first | exact sle_nil | refine sle_cons (VLe.refl _) ?_ | refine sle_cons (VLe.junk _) ?_)) rfl) (fun k hk => ?_)
  obtain ⟨hk, hch⟩ := hk
  by_cases hk' : k < l.length
  · rw [atR_at _ hk'] at hch
    have h1 := lenT (k := k) hl hr
    have h2 := rE_n (hr l[k] (List.getElem_mem hk'))
    have h3 := lenR_take l k hk'
    have e1 : a - lenR (l.take k) - l[k].n = a - lenR (l.take (k + 1)) := by omega
    rw [e1] at hch
    repeat' (first | (refine AW.sreg ?_) | (refine AW.reg ?_) | (refine AW.seqv ?_) | (refine AW.blockv ?_) | (show WR _ _ _ (⟨_, _, none⟩ :: _) _ _; refine WR.x1 rfl rfl (by (try simp (disch := omega) only [go_sem, runsV, Run.e]); first | done | with_reducible rfl) ?_) | (refine WR.nil ?_; try dsimp only) | (refine AW.skip ?_) | (refine AW.ret ?_) | (refine SeqQ.n ?_) | (refine SeqQ.r ?_) | (refine AW.exit ?_) | (refine SeqQ.e ?_) | (refine BlkQ.n ?_) | (refine BlkQ.r ?_) | (refine BlkQ.e ?_) | (refine BlkQ.o (by decide) ?_) | (refine RndQ.r ?_) | (refine RndQ.e ?_) | (first | show _ = _ | show gOK _ _ _ | (intro _; show _ = _)); ((try simp (disch := omega) only [go_sem, runsV, Run.e]); first | done | with_reducible rfl) | ((first | refine AW.cond (by (try simp (disch := omega) only [go_sem, runsV, Run.e]); first | done | with_reducible rfl) (fun hc => ?_) (fun hc => ?_)) <;> try simp only [go_sem] at hc <;> try first | exact absurd trivial hc | (exfalso; omega)))
    all_goals simp (disch := omega) only [ifp, ifn] at hch
    all_goals first | (refine RndQ.n (k+1) ⟨by omega, hch⟩ (by omega) (Gh.dropS 0 (Nat.le_refl _) ?_ rfl); rw [← e1]; exact (by simp only [go_sem, Nat.reduceLeDiff, Nat.reduceEqDiff, decide_true, decide_false]; repeat' (first | exact sle_nil | (with_reducible refine sle_cons (VLe.refl _) ?_) | refine sle_cons (VLe.junk _) ?_ | refine sle_cons (VLe.int (by omega)) ?_ | refine sle_cons (VLe.refl _) ?_))) | (refine Fin.ret (by first | exact Nat.zero_le _ | simp) rfl ?_; (try simp (disch := omega) only [go_sem, hch]); first | done | with_reducible rfl | (simp [hch]; done) | (simp [hch]; grind) | rfl)
  · have hk2 : k = l.length := by omega
    subst hk2
    repeat' (first | (refine AW.sreg ?_) | (refine AW.reg ?_) | (refine AW.seqv ?_) | (refine AW.blockv ?_) | (show WR _ _ _ (⟨_, _, none⟩ :: _) _ _; refine WR.x1 rfl rfl (by (try simp (disch := omega) only [go_sem, runsV]); first | done | with_reducible rfl) ?_) | (refine WR.nil ?_; try dsimp only) | (refine AW.skip ?_) | (refine AW.ret ?_) | (refine SeqQ.n ?_) | (refine SeqQ.r ?_) | (refine AW.exit ?_) | (refine SeqQ.e ?_) | (refine BlkQ.n ?_) | (refine BlkQ.r ?_) | (refine BlkQ.e ?_) | (refine BlkQ.o (by decide) ?_) | (refine RndQ.r ?_) | (refine RndQ.e ?_) | (first | show _ = _ | show gOK _ _ _ | (intro _; show _ = _)); ((try simp (disch := omega) only [go_sem, runsV]); first | done | with_reducible rfl) | ((first | refine AW.cond (by (try simp (disch := omega) only [go_sem, runsV]); first | done | with_reducible rfl) (fun hc => ?_) (fun hc => ?_)) <;> try simp only [go_sem] at hc <;> try first | exact absurd trivial hc | (exfalso; omega)))
    (refine Fin.ret (by first | exact Nat.zero_le _ | simp) rfl ?_; (try simp (disch := omega) only [go_sem, hch, atR]); first | done | with_reducible rfl | (simp [hch, atR]; done) | (simp [hch, atR]; grind) | rfl)
theorem sum_split (l : List Run) (k : Nat) (hk : k < l.length) (hr : ∀ r ∈ l, rangeE r.s r.n = 0) : lenR (l.take (k + 1)) ≤ lenR l := by
  have h : lenR l = lenR (l.take (k+1)) + lenR (l.drop (k+1)) := by
    conv => lhs; rw [← List.take_append_drop (k+1) l]
    simp only [lenR, List.map_append, List.sum_append]
  have h2 := lenR_bound (l.drop (k+1)) (fun r h => bn_of (hr r (List.mem_of_mem_drop h)))
  omega
theorem lenR_all (l : List Run) : lenR (l.take l.length) = lenR l := by rw [List.take_length]
theorem place_q (l : List Run) (a : Int) (hl : l.length ≤ 1000) (hr : ∀ r ∈ l, rangeE r.s r.n = 0) (ha : 0 ≤ a ∧ a ≤ 100000) (hal : a < lenR l) : QC Try.prog G 15 [runsV l, vi a] (rn (atR l a) (leftR l a)) := by
  (refine QC.drop ?_ rfl; refine AC.nz ?_; refine AC.of_codeJ Try.func15 Try.ntmps15 c15_ok r15_ok ?_; unfold c15; simp only [List.length_cons, List.length_nil, List.cons_append, List.nil_append, junks, Nat.reduceAdd, Nat.reduceSub])
  repeat' (first | (refine AW.sreg ?_) | (refine AW.reg ?_) | (refine AW.seqv ?_) | (refine AW.blockv ?_) | (refine AW.sdrawn ?_) | (refine AW.drawnv ?_) | (show WR _ _ _ (⟨_, _, none⟩ :: _) _ _; refine WR.x1 rfl rfl (by (try simp (disch := omega) only [go_sem, runsV]); first | done | with_reducible rfl) ?_) | (show AWL _ _ _ _ ((_, ⟨_, _, none⟩) :: _) _; refine WD.x1 rfl rfl (by (try simp (disch := omega) only [go_sem, runsV]); first | done | with_reducible rfl) ?_) | (refine WR.nil ?_; try dsimp only) | (refine WD.nil ?_; try dsimp only) | (refine AW.skip ?_) | (refine AW.ret ?_) | (refine SeqQ.n ?_) | (refine SeqQ.r ?_) | (refine AW.exit ?_) | (refine SeqQ.e ?_) | (refine BlkQ.n ?_) | (refine BlkQ.r ?_) | (refine BlkQ.e ?_) | (refine BlkQ.o (by decide) ?_) | (refine RndQ.r ?_) | (refine RndQ.e ?_) | (first | show _ = _ | show gOK _ _ _ | (intro _; show _ = _)); ((try simp (disch := omega) only [go_sem, runsV]); first | done | with_reducible rfl))
  refine AW.loopG (fun k : Nat => ⟨[runsV l, vi a, .junk, .junk, .one (.ptr 0 0), vi (a - lenR (l.take k)), vi k, .junk, .junk, .junk, .junk, .junk, .junk, .junk, .junk, .junk, .junk, .junk, .junk, .junk, .junk, .junk, .junk, .junk, .junk, .junk, .junk, .junk, .junk, .junk, .junk, .junk, .junk, .junk, .junk], [.box [.dc (ci 0), .dc (ci 0)]]⟩)
      (fun k => k ≤ l.length ∧ leftR l a = leftR (l.drop k) (a - lenR (l.take k)) ∧ 0 ≤ a - lenR (l.take k)) (fun k => l.length - k) 0 ⟨Nat.zero_le _, by simp [lenR], by simp [lenR]; omega⟩ (by simp only [List.take_zero, lenR, List.map_nil, List.sum_nil, Int.sub_zero]; exact Gh.sle (by repeat' (first | exact sle_nil | refine sle_cons (VLe.refl _) ?_ | refine sle_cons (VLe.junk _) ?_)) rfl) (fun k hk => ?_)
  obtain ⟨hk, hch, hp⟩ := hk
  have hk' : k < l.length := by
    rcases Nat.lt_or_ge k l.length with h | h
    · exact h
    · have h1 : k = l.length := by omega
      subst h1
      rw [lenR_all] at hp; omega
  rw [leftR_at _ hk'] at hch
  have h1 := lenT (k := k) hl hr
  have h2 := rE_n (hr l[k] (List.getElem_mem hk'))
  have h3 := lenR_take l k hk'
  have e1 : a - lenR (l.take k) - l[k].n = a - lenR (l.take (k + 1)) := by omega
  rw [e1] at hch
  repeat' (first | (refine AW.sreg ?_) | (refine AW.reg ?_) | (refine AW.seqv ?_) | (refine AW.blockv ?_) | (refine AW.sdrawn ?_) | (refine AW.drawnv ?_) | (show WR _ _ _ (⟨_, _, none⟩ :: _) _ _; refine WR.x1 rfl rfl (by (try simp (disch := omega) only [go_sem, runsV, Run.e]); first | done | with_reducible rfl) ?_) | (show AWL _ _ _ _ ((_, ⟨_, _, none⟩) :: _) _; refine WD.x1 rfl rfl (by (try simp (disch := omega) only [go_sem, runsV, Run.e]); first | done | with_reducible rfl) ?_) | (refine WR.nil ?_; try dsimp only) | (refine WD.nil ?_; try dsimp only) | (show WR _ _ _ (⟨_, .call _ _, _⟩ :: _) _ _; first | refine' WR.cQ rfl (at_q l a hl hr ha) (by (try simp (disch := omega) only [go_sem, runsV, Run.e]); first | done | with_reducible rfl) ?_ ?_ ?_ ?_) | (show AWL _ _ _ _ ((_, ⟨_, .call _ _, _⟩) :: _) _; first | refine' WD.cQ rfl (at_q l a hl hr ha) (fun _ => (by (try simp (disch := omega) only [go_sem, runsV, Run.e]); first | done | with_reducible rfl)) ?_ ?_ ?_ ?_) | (refine AW.skip ?_) | (refine AW.ret ?_) | (refine SeqQ.n ?_) | (refine SeqQ.r ?_) | (refine AW.exit ?_) | (refine SeqQ.e ?_) | (refine BlkQ.n ?_) | (refine BlkQ.r ?_) | (refine BlkQ.e ?_) | (refine BlkQ.o (by decide) ?_) | (refine RndQ.r ?_) | (refine RndQ.e ?_) | (first | show _ = _ | show gOK _ _ _ | (intro _; show _ = _)); ((try simp (disch := omega) only [go_sem, runsV, Run.e]); first | done | with_reducible rfl) | ((first | refine AW.cond (by (try simp (disch := omega) only [go_sem, runsV, Run.e]); first | done | with_reducible rfl) (fun hc => ?_) (fun hc => ?_)) <;> try simp only [go_sem] at hc <;> try first | exact absurd trivial hc | (exfalso; omega)))
  all_goals simp (disch := omega) only [ifp, ifn] at hch
  all_goals first | (refine RndQ.n (k+1) ⟨by omega, hch, by omega⟩ (by omega) (Gh.dropS 1 (by simp) ?_ rfl); rw [← e1]; exact (by simp only [go_sem, Nat.reduceLeDiff, Nat.reduceEqDiff, decide_true, decide_false]; repeat' (first | exact sle_nil | (with_reducible refine sle_cons (VLe.refl _) ?_) | refine sle_cons (VLe.junk _) ?_ | refine sle_cons (VLe.int (by omega)) ?_ | refine sle_cons (VLe.refl _) ?_))) | (refine Fin.ret (by first | exact Nat.zero_le _ | simp) rfl ?_; (try simp (disch := omega) only [go_sem, hch, rn]); first | done | with_reducible rfl | (simp [hch, rn]; done) | (simp [hch, rn]; grind) | rfl)
instance : DecidableEq Run := fun a b => decidable_of_iff (a.s = b.s ∧ a.n = b.n) ⟨fun h => by cases a; cases b; simp_all, fun h => by subst h; exact ⟨rfl, rfl⟩⟩
theorem run_eq {a b : Run} : a = b ↔ a.s = b.s ∧ a.n = b.n := ⟨fun h => by subst h; exact ⟨rfl, rfl⟩, fun h => by cases a; cases b; simp_all⟩
theorem sameRuns_q (a b : List Run) (ha : a.length ≤ 100000) : QC Try.prog G 43 [runsV a, runsV b] (vb (decide (a = b))) := by
  (refine QC.drop ?_ rfl; refine AC.nz ?_; refine AC.of_codeJ Try.func43 Try.ntmps43 c43_ok r43_ok ?_; unfold c43; simp only [List.length_cons, List.length_nil, List.cons_append, List.nil_append, junks, Nat.reduceAdd, Nat.reduceSub])
  repeat' (first | (refine AW.sreg ?_) | (refine AW.reg ?_) | (refine AW.seqv ?_) | (refine AW.blockv ?_) | (refine AW.sdrawn ?_) | (refine AW.drawnv ?_) | (show WR _ _ _ (⟨_, _, none⟩ :: _) _ _; refine WR.x1 rfl rfl (by (try simp (disch := omega) only [go_sem, runsV]); first | done | with_reducible rfl) ?_) | (show AWL _ _ _ _ ((_, ⟨_, _, none⟩) :: _) _; refine WD.x1 rfl rfl (by (try simp (disch := omega) only [go_sem, runsV]); first | done | with_reducible rfl) ?_) | (refine WR.nil ?_; try dsimp only) | (refine WD.nil ?_; try dsimp only) | (refine AW.skip ?_) | (refine AW.ret ?_) | (refine SeqQ.n ?_) | (refine SeqQ.r ?_) | (refine AW.exit ?_) | (refine SeqQ.e ?_) | (refine BlkQ.n ?_) | (refine BlkQ.r ?_) | (refine BlkQ.e ?_) | (refine BlkQ.o (by decide) ?_) | (refine RndQ.r ?_) | (refine RndQ.e ?_) | (first | show _ = _ | show gOK _ _ _ | (intro _; show _ = _)); ((try simp (disch := omega) only [go_sem, runsV]); first | done | with_reducible rfl))
  refine AW.cond (by (try simp (disch := omega) only [go_sem]); first | done | with_reducible rfl) (fun hc => ?_) (fun hc => ?_)
  · have hne : ¬ a = b := by rintro rfl; simp at hc
    repeat' (first | (refine AW.sreg ?_) | (refine AW.reg ?_) | (refine AW.seqv ?_) | (refine AW.blockv ?_) | (refine AW.sdrawn ?_) | (refine AW.drawnv ?_) | (show WR _ _ _ (⟨_, _, none⟩ :: _) _ _; refine WR.x1 rfl rfl (by (try simp (disch := omega) only [go_sem]); first | done | with_reducible rfl) ?_) | (show AWL _ _ _ _ ((_, ⟨_, _, none⟩) :: _) _; refine WD.x1 rfl rfl (by (try simp (disch := omega) only [go_sem]); first | done | with_reducible rfl) ?_) | (refine WR.nil ?_; try dsimp only) | (refine WD.nil ?_; try dsimp only) | (refine AW.skip ?_) | (refine AW.ret ?_) | (refine SeqQ.n ?_) | (refine SeqQ.r ?_) | (refine AW.exit ?_) | (refine SeqQ.e ?_) | (refine BlkQ.n ?_) | (refine BlkQ.r ?_) | (refine BlkQ.e ?_) | (refine BlkQ.o (by decide) ?_) | (refine RndQ.r ?_) | (refine RndQ.e ?_) | (first | show _ = _ | show gOK _ _ _ | (intro _; show _ = _)); ((try simp (disch := omega) only [go_sem]); first | done | with_reducible rfl))
    (refine Fin.ret (by first | exact Nat.zero_le _ | simp) rfl ?_; (try simp (disch := omega) only [go_sem, hne]); first | done | with_reducible rfl | (simp [hne]; done) | (simp [hne]; grind) | rfl)
  · have hlen : a.length = b.length := by simp at hc; omega
    repeat' (first | (refine AW.sreg ?_) | (refine AW.reg ?_) | (refine AW.seqv ?_) | (refine AW.blockv ?_) | (refine AW.sdrawn ?_) | (refine AW.drawnv ?_) | (show WR _ _ _ (⟨_, _, none⟩ :: _) _ _; refine WR.x1 rfl rfl (by (try simp (disch := omega) only [go_sem, runsV]); first | done | with_reducible rfl) ?_) | (show AWL _ _ _ _ ((_, ⟨_, _, none⟩) :: _) _; refine WD.x1 rfl rfl (by (try simp (disch := omega) only [go_sem, runsV]); first | done | with_reducible rfl) ?_) | (refine WR.nil ?_; try dsimp only) | (refine WD.nil ?_; try dsimp only) | (refine AW.skip ?_) | (refine AW.ret ?_) | (refine SeqQ.n ?_) | (refine SeqQ.r ?_) | (refine AW.exit ?_) | (refine SeqQ.e ?_) | (refine BlkQ.n ?_) | (refine BlkQ.r ?_) | (refine BlkQ.e ?_) | (refine BlkQ.o (by decide) ?_) | (refine RndQ.r ?_) | (refine RndQ.e ?_) | (first | show _ = _ | show gOK _ _ _ | (intro _; show _ = _)); ((try simp (disch := omega) only [go_sem, runsV]); first | done | with_reducible rfl))
    refine AW.loopG (fun k : Nat => ⟨[runsV a, runsV b, .junk, .junk, vb false, vi k, .junk, .junk, .junk, .junk, .junk, .junk, .junk, .junk, .junk, .junk, .junk, .junk, .junk, .junk, .junk, .junk, .junk, .junk, .junk, .junk], []⟩)
      (fun k => k ≤ a.length ∧ a.take k = b.take k) (fun k => a.length - k) 0 ⟨Nat.zero_le _, by simp⟩ (Gh.sle (by repeat' (first | exact sle_nil | refine sle_cons (VLe.refl _) ?_ | refine sle_cons (VLe.junk _) ?_)) rfl) (fun k hk => ?_)
    obtain ⟨hk, hch⟩ := hk
    by_cases hk' : k < a.length
    · have hkb : k < b.length := by omega
      have ea := List.take_succ_eq_append_getElem hk'
      have eb := List.take_succ_eq_append_getElem hkb
      repeat' (first | (refine AW.sreg ?_) | (refine AW.reg ?_) | (refine AW.seqv ?_) | (refine AW.blockv ?_) | (refine AW.sdrawn ?_) | (refine AW.drawnv ?_) | (show WR _ _ _ (⟨_, _, none⟩ :: _) _ _; refine WR.x1 rfl rfl (by (try simp (disch := omega) only [go_sem, runsV, Run.e, ci, eqCs, eqR]); first | done | with_reducible rfl) ?_) | (show AWL _ _ _ _ ((_, ⟨_, _, none⟩) :: _) _; refine WD.x1 rfl rfl (by (try simp (disch := omega) only [go_sem, runsV, Run.e, ci, eqCs, eqR]); first | done | with_reducible rfl) ?_) | (refine WR.nil ?_; try dsimp only) | (refine WD.nil ?_; try dsimp only) | (refine AW.skip ?_) | (refine AW.ret ?_) | (refine SeqQ.n ?_) | (refine SeqQ.r ?_) | (refine AW.exit ?_) | (refine SeqQ.e ?_) | (refine BlkQ.n ?_) | (refine BlkQ.r ?_) | (refine BlkQ.e ?_) | (refine BlkQ.o (by decide) ?_) | (refine RndQ.r ?_) | (refine RndQ.e ?_) | (first | show _ = _ | show gOK _ _ _ | (intro _; show _ = _)); ((try simp (disch := omega) only [go_sem, runsV, Run.e, ci, eqCs, eqR]); first | done | with_reducible rfl) | ((first | refine AW.cond (by (try simp (disch := omega) only [go_sem, runsV, Run.e, ci, eqCs, eqR]); first | done | with_reducible rfl) (fun hc => ?_) (fun hc => ?_)) <;> try simp only [go_sem] at hc <;> try first | exact absurd trivial hc | (exfalso; omega)))
      · have hne : ¬ a = b := by
          intro h
          subst h
          simp at *
        (refine Fin.ret (by first | exact Nat.zero_le _ | simp) rfl ?_; (try simp (disch := omega) only [go_sem, hne]); first | done | with_reducible rfl | (simp [hne]; done) | (simp [hne]; grind) | rfl)
      · have he : a[k] = b[k] := run_eq.2 ‹_›
        refine RndQ.n (k+1) ⟨by omega, by rw [ea, eb, hch, he]⟩ (by omega) (Gh.dropS 0 (by simp) (by simp only [go_sem, Nat.reduceLeDiff, Nat.reduceEqDiff, decide_true, decide_false]; repeat' (first | exact sle_nil | (with_reducible refine sle_cons (VLe.refl _) ?_) | refine sle_cons (VLe.junk _) ?_ | refine sle_cons (VLe.int (by omega)) ?_ | refine sle_cons (VLe.refl _) ?_)) rfl)
    · have hk2 : k = a.length := by omega
      subst hk2
      have he : a = b := by
        rw [List.take_length, hlen, List.take_length] at hch
        exact hch
      repeat' (first | (refine AW.sreg ?_) | (refine AW.reg ?_) | (refine AW.seqv ?_) | (refine AW.blockv ?_) | (refine AW.sdrawn ?_) | (refine AW.drawnv ?_) | (show WR _ _ _ (⟨_, _, none⟩ :: _) _ _; refine WR.x1 rfl rfl (by (try simp (disch := omega) only [go_sem, runsV]); first | done | with_reducible rfl) ?_) | (show AWL _ _ _ _ ((_, ⟨_, _, none⟩) :: _) _; refine WD.x1 rfl rfl (by (try simp (disch := omega) only [go_sem, runsV]); first | done | with_reducible rfl) ?_) | (refine WR.nil ?_; try dsimp only) | (refine WD.nil ?_; try dsimp only) | (refine AW.skip ?_) | (refine AW.ret ?_) | (refine SeqQ.n ?_) | (refine SeqQ.r ?_) | (refine AW.exit ?_) | (refine SeqQ.e ?_) | (refine BlkQ.n ?_) | (refine BlkQ.r ?_) | (refine BlkQ.e ?_) | (refine BlkQ.o (by decide) ?_) | (refine RndQ.r ?_) | (refine RndQ.e ?_) | (first | show _ = _ | show gOK _ _ _ | (intro _; show _ = _)); ((try simp (disch := omega) only [go_sem, runsV]); first | done | with_reducible rfl) | ((first | refine AW.cond (by (try simp (disch := omega) only [go_sem, runsV]); first | done | with_reducible rfl) (fun hc => ?_) (fun hc => ?_)) <;> try simp only [go_sem] at hc <;> try first | exact absurd trivial hc | (exfalso; omega)))
      (refine Fin.ret (by first | exact Nat.zero_le _ | simp) rfl ?_; (try simp (disch := omega) only [go_sem, he]); first | done | with_reducible rfl | (simp [he]; done) | (simp [he]; grind) | rfl)
def placeOfV (l : List Run) (a : Int) : Int × Int × Int :=
  if firstE [(chk l).2, if 0 ≤ a then 0 else 2] ≠ 0 then (0, 0, firstE [(chk l).2, if 0 ≤ a then 0 else 2]) else if a < lenR l then (atR l a, leftR l a, 0) else (0, 0, 37)
theorem chkL_rg {all : List Run} : ∀ {l : List Run} {p : Option Run} {U : List Bool} {i : Nat}, (chkL all l p U i).2 = 0 → ∀ r ∈ l, rangeE r.s r.n = 0
  | [], _, _, _, _, r, hr => by cases hr
  | r0 :: l, p, U, i, h, r, hr => by
    rw [chkL] at h
    split at h
    · rename_i h1; exact absurd h h1
    · rename_i h1
      rcases List.mem_cons.1 hr with rfl | hr
      · have h2 : stepE p U r = 0 := by omega
        unfold stepE at h2
        split at h2
        · exact h2
        · rename_i h3; omega
      · exact chkL_rg h r hr
theorem chk_rg {l : List Run} (h : (chk l).2 = 0) : ∀ r ∈ l, rangeE r.s r.n = 0 := by
  unfold chk at h
  split at h
  · cases h
  · exact chkL_rg h
theorem chk_len {l : List Run} (h : (chk l).2 = 0) : l.length ≤ 64 := by
  unfold chk at h
  split at h
  · cases h
  · omega
theorem placeOf_q (l : List Run) (a : Int) (hl : l.length ≤ 1000) (ha : a ≤ 9223372036854775807) : QC Try.prog G 11 [runsV l, vi a] (.tup [.agg [.dc (ci (placeOfV l a).1), .dc (ci (placeOfV l a).2.1)], .one (.dc (ci (placeOfV l a).2.2))]) := by
  (refine QC.drop ?_ rfl; refine AC.nz ?_; refine AC.of_codeJ Try.func11 Try.ntmps11 c11_ok r11_ok ?_; unfold c11; simp only [List.length_cons, List.length_nil, List.cons_append, List.nil_append, junks, Nat.reduceAdd, Nat.reduceSub])
  repeat' (first | (refine AW.sreg ?_) | (refine AW.reg ?_) | (refine AW.seqv ?_) | (refine AW.blockv ?_) | (show WR _ _ _ (⟨_, _, none⟩ :: _) _ _; refine WR.x1 rfl rfl (by (try simp (disch := omega) only [go_sem, runsV, lls, errsE, el]); first | done | with_reducible rfl) ?_) | (refine WR.nil ?_; try dsimp only) | (show WR _ _ _ (⟨_, .call _ _, _⟩ :: _) _ _; first | refine' WR.cQ rfl (runsErr_q [l] (by simp) (by simpa using hl)) (by (try simp (disch := omega) only [go_sem, runsV, lls, errsE, el]); first | done | with_reducible rfl) ?_ ?_ ?_ ?_ | refine' WR.cQ rfl (unless_q _ _) (by (try simp (disch := omega) only [go_sem, runsV, lls, errsE, el]); first | done | with_reducible rfl) ?_ ?_ ?_ ?_ | refine' WR.cQ rfl (first_q [firstE [(chk l).2], if 0 ≤ a then 0 else 2] (by simp)) (by (try simp (disch := omega) only [go_sem, runsV, lls, errsE, el]); first | done | with_reducible rfl) ?_ ?_ ?_ ?_) | (refine AW.skip ?_) | (refine AW.ret ?_) | (refine SeqQ.n ?_) | (refine SeqQ.r ?_) | (refine AW.exit ?_) | (refine SeqQ.e ?_) | (refine BlkQ.n ?_) | (refine BlkQ.r ?_) | (refine BlkQ.e ?_) | (refine BlkQ.o (by decide) ?_) | (refine RndQ.r ?_) | (refine RndQ.e ?_) | (first | show _ = _ | show gOK _ _ _ | (intro _; show _ = _)); ((try simp (disch := omega) only [go_sem, runsV, lls, errsE, el]); first | done | with_reducible rfl))
  have hf : firstE [firstE [(chk l).2], if 0 ≤ a then 0 else 2] = firstE [(chk l).2, if 0 ≤ a then 0 else 2] := by
    by_cases h : (chk l).2 = 0 <;> simp [firstE, h]
  refine AW.cond (by (try simp (disch := omega) only [go_sem]); first | done | with_reducible rfl) (fun hc => ?_) (fun hc => ?_)
  · have h1 : firstE [(chk l).2, if 0 ≤ a then 0 else 2] ≠ 0 := by simpa [hf] using hc
    repeat' (first | (refine AW.sreg ?_) | (refine AW.reg ?_) | (refine AW.seqv ?_) | (refine AW.blockv ?_) | (show WR _ _ _ (⟨_, _, none⟩ :: _) _ _; refine WR.x1 rfl rfl (by (try simp (disch := omega) only [go_sem]); first | done | with_reducible rfl) ?_) | (refine WR.nil ?_; try dsimp only) | (refine AW.skip ?_) | (refine AW.ret ?_) | (refine SeqQ.n ?_) | (refine SeqQ.r ?_) | (refine AW.exit ?_) | (refine SeqQ.e ?_) | (refine BlkQ.n ?_) | (refine BlkQ.r ?_) | (refine BlkQ.e ?_) | (refine BlkQ.o (by decide) ?_) | (refine RndQ.r ?_) | (refine RndQ.e ?_) | (first | show _ = _ | show gOK _ _ _ | (intro _; show _ = _)); ((try simp (disch := omega) only [go_sem]); first | done | with_reducible rfl))
    (refine Fin.ret (by first | exact Nat.zero_le _ | simp) rfl ?_; (try simp (disch := omega) only [go_sem, placeOfV, h1, hf]); first | done | with_reducible rfl | (simp [placeOfV, h1, hf]; done) | (simp [placeOfV, h1, hf]; grind) | rfl)
  · have h1 : firstE [(chk l).2, if 0 ≤ a then 0 else 2] = 0 := by simpa [hf] using hc
    have h2 : (chk l).2 = 0 ∧ 0 ≤ a := by
      simp only [firstE] at h1
      by_cases h3 : (chk l).2 = 0 <;> by_cases h4 : 0 ≤ a <;> simp_all
    have hr := chk_rg h2.1
    repeat' (first | (refine AW.sreg ?_) | (refine AW.reg ?_) | (refine AW.seqv ?_) | (refine AW.blockv ?_) | (show WR _ _ _ (⟨_, _, none⟩ :: _) _ _; refine WR.x1 rfl rfl (by (try simp (disch := omega) only [go_sem, runsV]); first | done | with_reducible rfl) ?_) | (refine WR.nil ?_; try dsimp only) | (refine AW.skip ?_) | (refine AW.ret ?_) | (refine SeqQ.n ?_) | (refine SeqQ.r ?_) | (refine AW.exit ?_) | (refine SeqQ.e ?_) | (refine BlkQ.n ?_) | (refine BlkQ.r ?_) | (refine BlkQ.e ?_) | (refine BlkQ.o (by decide) ?_) | (refine RndQ.r ?_) | (refine RndQ.e ?_) | (first | show _ = _ | show gOK _ _ _ | (intro _; show _ = _)); ((try simp (disch := omega) only [go_sem, runsV]); first | done | with_reducible rfl))
    refine AW.loopG (fun k : Nat => ⟨[runsV l, vi (a - lenR (l.take k)), .junk, .junk, .one (.ptr 0 0), vi 0, .junk, .junk, .junk, .junk, .junk, .junk, .junk, .junk, .junk, .junk, .junk, .junk, .junk, .junk, .junk, .junk, runsV l, vi l.length, vi k, .junk, .junk, .junk, .junk, .junk, .junk, .junk, .junk, .junk, .junk, .junk, .junk, .junk, .junk, .junk, .junk, .junk, .junk, .junk, .junk, .junk, .junk, .junk, .junk, .junk, .junk, .junk], [.box [.dc (ci 0), .dc (ci 0)]]⟩)
      (fun k => k ≤ l.length ∧ leftR l a = leftR (l.drop k) (a - lenR (l.take k)) ∧ atR l a = atR (l.drop k) (a - lenR (l.take k)) ∧ 0 ≤ a - lenR (l.take k)) (fun k => l.length - k) 0 ⟨Nat.zero_le _, by simp [lenR], by simp [lenR], by simp [lenR]; omega⟩ (by simp only [List.take_zero, lenR, List.map_nil, List.sum_nil, Int.sub_zero]; exact Gh.sle (by repeat' (first | exact sle_nil | refine sle_cons (VLe.refl _) ?_ | refine sle_cons (VLe.junk _) ?_)) rfl) (fun k hk => ?_)
    obtain ⟨hk, hle, hch, hp⟩ := hk
    by_cases hk' : k < l.length
    · rw [atR_at _ hk'] at hch
      rw [leftR_at _ hk'] at hle
      have h1 := lenT (k := k) hl hr
      have h2' := rE_n (hr l[k] (List.getElem_mem hk'))
      have h3 := lenR_take l k hk'
      have h4 := sum_split l k hk' hr
      have e1 : a - lenR (l.take k) - l[k].n = a - lenR (l.take (k + 1)) := by omega
      rw [e1] at hch hle
      have hg : ∀ x y, a - lenR (l.take k) < l[k].n → atR l a = x → leftR l a = y → placeOfV l a = (x, y, 0) := by
        intro x y h5 h6 h7
        rw [placeOfV, if_neg (by omega), if_pos (by omega), h6, h7]
      repeat' (first | (refine AW.sreg ?_) | (refine AW.reg ?_) | (refine AW.seqv ?_) | (refine AW.blockv ?_) | (show WR _ _ _ (⟨_, _, none⟩ :: _) _ _; refine WR.x1 rfl rfl (by (try simp (disch := omega) only [go_sem, runsV, Run.e, rn]); first | done | with_reducible rfl) ?_) | (refine WR.nil ?_; try dsimp only) | (show WR _ _ _ (⟨_, .call _ _, _⟩ :: _) _ _; first | refine' WR.cQ rfl (isHole_q _ _) (by (try simp (disch := omega) only [go_sem, runsV, Run.e, rn]); first | done | with_reducible rfl) ?_ ?_ ?_ ?_) | (refine AW.skip ?_) | (refine AW.ret ?_) | (refine SeqQ.n ?_) | (refine SeqQ.r ?_) | (refine AW.exit ?_) | (refine SeqQ.e ?_) | (refine BlkQ.n ?_) | (refine BlkQ.r ?_) | (refine BlkQ.e ?_) | (refine BlkQ.o (by decide) ?_) | (refine RndQ.r ?_) | (refine RndQ.e ?_) | (first | show _ = _ | show gOK _ _ _ | (intro _; show _ = _)); ((try simp (disch := omega) only [go_sem, runsV, Run.e, rn]); first | done | with_reducible rfl) | ((first | refine AW.cond (by (try simp (disch := omega) only [go_sem, runsV, Run.e, rn]); first | done | with_reducible rfl) (fun hc => ?_) (fun hc => ?_)) <;> try simp only [go_sem] at hc <;> try first | exact absurd trivial hc | (exfalso; omega)))
      all_goals simp (disch := omega) only [ifp, ifn] at hch hle
      all_goals first | (refine RndQ.n (k+1) ⟨by omega, hle, hch, by omega⟩ (by omega) (Gh.dropS 1 (by simp) ?_ rfl); rw [← e1]; exact (by simp only [go_sem, Nat.reduceLeDiff, Nat.reduceEqDiff, decide_true, decide_false]; repeat' (first | exact sle_nil | (with_reducible refine sle_cons (VLe.refl _) ?_) | refine sle_cons (VLe.junk _) ?_ | refine sle_cons (VLe.int (by omega)) ?_ | refine sle_cons (VLe.refl _) ?_))) | (rw [hg _ _ ‹_› hch hle]; (refine Fin.ret (by first | exact Nat.zero_le _ | simp) rfl ?_; (try simp (disch := omega) only [go_sem]); first | done | with_reducible rfl | (simp []; done) | (simp []; grind) | rfl))
    · have hk2 : k = l.length := by omega
      subst hk2
      rw [lenR_all] at hp
      have hf : placeOfV l a = (0, 0, 37) := by rw [placeOfV, if_neg (by omega), if_neg (by omega)]
      repeat' (first | (refine AW.sreg ?_) | (refine AW.reg ?_) | (refine AW.seqv ?_) | (refine AW.blockv ?_) | (show WR _ _ _ (⟨_, _, none⟩ :: _) _ _; refine WR.x1 rfl rfl (by (try simp (disch := omega) only [go_sem, runsV]); first | done | with_reducible rfl) ?_) | (refine WR.nil ?_; try dsimp only) | (refine AW.skip ?_) | (refine AW.ret ?_) | (refine SeqQ.n ?_) | (refine SeqQ.r ?_) | (refine AW.exit ?_) | (refine SeqQ.e ?_) | (refine BlkQ.n ?_) | (refine BlkQ.r ?_) | (refine BlkQ.e ?_) | (refine BlkQ.o (by decide) ?_) | (refine RndQ.r ?_) | (refine RndQ.e ?_) | (first | show _ = _ | show gOK _ _ _ | (intro _; show _ = _)); ((try simp (disch := omega) only [go_sem, runsV]); first | done | with_reducible rfl) | ((first | refine AW.cond (by (try simp (disch := omega) only [go_sem, runsV]); first | done | with_reducible rfl) (fun hc => ?_) (fun hc => ?_)) <;> try simp only [go_sem] at hc <;> try first | exact absurd trivial hc | (exfalso; omega)))
      (refine Fin.ret (by first | exact Nat.zero_le _ | simp) rfl ?_; (try simp (disch := omega) only [go_sem, hf]); first | done | with_reducible rfl | (simp [hf]; done) | (simp [hf]; grind) | rfl)
end Go.Proofs.Ytginjcpblgpcoaa
