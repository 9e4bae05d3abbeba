/- Runlists that are made. Conditions: none. -/
import Derived.Test.YtginjcpblgpcoaaMc
import Derived.Test.YtginjcpblgpcoaaBr
namespace Go.Proofs.Ytginjcpblgpcoaa
set_option maxRecDepth 4000
set_option linter.unusedSimpArgs false
set_option linter.unusedVariables false
attribute [local irreducible] AW WR Gh AC AWL
variable {G : Glob}
attribute [local go_sem] rn Run.v Run.e runsV
/-- how many clusters, as the program counts -/
def lenW (l : List Run) : Int := l.foldl (fun n r => IntKind.i64.wrap (n + r.n)) 0
theorem lenW_take (l : List Run) (k : Nat) (h : k < l.length) : lenW (l.take (k + 1)) = IntKind.i64.wrap (lenW (l.take k) + l[k].n) := by
  rw [List.take_succ_eq_append_getElem h, lenW, List.foldl_append]; rfl
theorem lenW_eq (l : List Run) (h : ∀ r ∈ l, 0 ≤ r.n) (hs : lenR l ≤ 1000000000000) : lenW l = lenR l := by
  have key : ∀ (l : List Run) (n : Int), 0 ≤ n → (∀ r ∈ l, 0 ≤ r.n) → n + lenR l ≤ 1000000000000 → l.foldl (fun n r => IntKind.i64.wrap (n + r.n)) n = n + lenR l := by
    intro l
    induction l with
    | nil => intro n _ _ _; simp [lenR]
    | cons r l ih =>
      intro n hn h hs
      have h1 := h r List.mem_cons_self
      have e1 : lenR (r :: l) = r.n + lenR l := by simp [lenR]
      have h2 := lenR_nonneg l (fun r hr => h r (List.mem_cons_of_mem _ hr))
      rw [List.foldl_cons, wrap64 (by omega), ih (n + r.n) (by omega) (fun r hr => h r (List.mem_cons_of_mem _ hr)) (by omega)]
      omega
  have := key l 0 (by omega) h (by omega)
  simpa [lenW] using this
theorem length_any (l : List Run) (hl : l.length ≤ 1000000) : QC Try.prog G 51 [runsV l] (vi (lenW l)) := by
  (refine QC.drop ?_ rfl; refine AC.nz ?_; refine AC.of_codeJ Try.func51 Try.ntmps51 c51_ok r51_ok ?_; unfold c51; simp only [List.length_cons, List.length_nil, List.cons_append, List.nil_append, junks, Nat.reduceAdd, Nat.reduceSub])
  repeat' (first | (refine AW.sreg ?_) | (refine AW.reg ?_) | (refine AW.seqv ?_) | (refine AW.blockv ?_) | (show WR _ _ _ (⟨_, _, none⟩ :: _) _ _; refine WR.x1 rfl rfl (by (try simp (disch := omega) only [go_sem]); first | done | with_reducible rfl) ?_) | (refine WR.nil ?_; try dsimp only) | (refine AW.skip ?_) | (refine AW.ret ?_) | (refine SeqQ.n ?_) | (refine SeqQ.r ?_) | (refine AW.exit ?_) | (refine SeqQ.e ?_) | (refine BlkQ.n ?_) | (refine BlkQ.r ?_) | (refine BlkQ.e ?_) | (refine BlkQ.o (by decide) ?_) | (refine RndQ.r ?_) | (refine RndQ.e ?_) | (first | show _ = _ | show gOK _ _ _ | (intro _; show _ = _)); ((try simp (disch := omega) only [go_sem]); first | done | with_reducible rfl))
  refine AW.loopG (fun k : Nat => ⟨[runsV l, .junk, .junk, vi (lenW (l.take k)), .junk, .junk, runsV l, vi l.length, vi k, .junk, .junk, .junk, .junk, .junk, .junk, .junk, .junk, .junk], []⟩) (fun k => k ≤ l.length) (fun k => l.length - k) 0 (Nat.zero_le _) (Gh.sle (by repeat' (first | exact sle_nil | refine sle_cons (VLe.refl _) ?_ | refine sle_cons (VLe.junk _) ?_)) rfl) (fun k hk => ?_)
  by_cases hk' : k < l.length
  · have e3 := lenW_take l k hk'
    repeat' (first | (refine AW.sreg ?_) | (refine AW.reg ?_) | (refine AW.seqv ?_) | (refine AW.blockv ?_) | (show WR _ _ _ (⟨_, _, none⟩ :: _) _ _; refine WR.x1 rfl rfl (by (try simp (disch := omega) only [go_sem]); first | done | with_reducible rfl) ?_) | (refine WR.nil ?_; try dsimp only) | (refine AW.skip ?_) | (refine AW.ret ?_) | (refine SeqQ.n ?_) | (refine SeqQ.r ?_) | (refine AW.exit ?_) | (refine SeqQ.e ?_) | (refine BlkQ.n ?_) | (refine BlkQ.r ?_) | (refine BlkQ.e ?_) | (refine BlkQ.o (by decide) ?_) | (refine RndQ.r ?_) | (refine RndQ.e ?_) | (first | show _ = _ | show gOK _ _ _ | (intro _; show _ = _)); ((try simp (disch := omega) only [go_sem]); first | done | with_reducible rfl) | ((first | refine AW.cond (by (try simp (disch := omega) only [go_sem]); first | done | with_reducible rfl) (fun hc => ?_) (fun hc => ?_)) <;> try simp only [go_sem] at hc <;> try first | exact absurd trivial hc | (exfalso; omega)))
    rw [← e3]
    exact RndQ.n (k+1) (by omega) (by omega) (Gh.dropS 0 (Nat.le_refl _) (by simp only [go_sem, Nat.reduceLeDiff, Nat.reduceEqDiff, decide_true, decide_false]; repeat' (first | exact sle_nil | (with_reducible refine sle_cons (VLe.refl _) ?_) | refine sle_cons (VLe.junk _) ?_ | refine sle_cons (VLe.int (by omega)) ?_ | refine sle_cons (VLe.refl _) ?_)) rfl)
  · have hk2 : k = l.length := by omega
    subst hk2
    repeat' (first | (refine AW.sreg ?_) | (refine AW.reg ?_) | (refine AW.seqv ?_) | (refine AW.blockv ?_) | (show WR _ _ _ (⟨_, _, none⟩ :: _) _ _; refine WR.x1 rfl rfl (by (try simp (disch := omega) only [go_sem]); first | done | with_reducible rfl) ?_) | (refine WR.nil ?_; try dsimp only) | (refine AW.skip ?_) | (refine AW.ret ?_) | (refine SeqQ.n ?_) | (refine SeqQ.r ?_) | (refine AW.exit ?_) | (refine SeqQ.e ?_) | (refine BlkQ.n ?_) | (refine BlkQ.r ?_) | (refine BlkQ.e ?_) | (refine BlkQ.o (by decide) ?_) | (refine RndQ.r ?_) | (refine RndQ.e ?_) | (first | show _ = _ | show gOK _ _ _ | (intro _; show _ = _)); ((try simp (disch := omega) only [go_sem]); first | done | with_reducible rfl) | ((first | refine AW.cond (by (try simp (disch := omega) only [go_sem]); first | done | with_reducible rfl) (fun hc => ?_) (fun hc => ?_)) <;> try simp only [go_sem] at hc <;> try first | exact absurd trivial hc | (exfalso; omega)))
    (refine Fin.ret (by first | exact Nat.zero_le _ | simp) rfl ?_; (try simp (disch := omega) only [go_sem, List.take_length]); first | done | with_reducible rfl | (simp [List.take_length]; done) | (simp [List.take_length]; grind) | rfl)
def addL (R l : List Run) : List Run := l.foldl addR R
theorem addL_take (R l : List Run) (k : Nat) (h : k < l.length) : addL R (l.take (k + 1)) = addR (addL R (l.take k)) l[k] := by
  rw [List.take_succ_eq_append_getElem h, addL, List.foldl_append]; rfl
/-- runs that can be added -/
structure Fine (l : List Run) : Prop where
  el : ∀ q ∈ l, -1 ≤ q.s ∧ q.s ≤ 1000 ∧ 0 ≤ q.n
  sum : lenR l ≤ 100000000
  len : l.length ≤ 100000
theorem addL_good {R l : List Run} (hR : ∀ q ∈ R, -1 ≤ q.s ∧ q.s ≤ 1000 ∧ 0 ≤ q.n) (hl : ∀ q ∈ l, -1 ≤ q.s ∧ q.s ≤ 1000 ∧ 0 ≤ q.n) :
    (∀ q ∈ addL R l, -1 ≤ q.s ∧ q.s ≤ 1000 ∧ 0 ≤ q.n) ∧ lenR (addL R l) = lenR R + lenR l ∧ (addL R l).length ≤ R.length + l.length := by
  induction l generalizing R with
  | nil => exact ⟨hR, by simp [addL, lenR], by simp [addL]⟩
  | cons r l ih =>
    have h1 := hl r List.mem_cons_self
    obtain ⟨a, b, c⟩ := ih (R := addR R r) (addR_mem h1 hR) (fun q hq => hl q (List.mem_cons_of_mem _ hq))
    have e1 : lenR (r :: l) = r.n + lenR l := by simp [lenR]
    have h2 := addR_length R r
    refine ⟨a, ?_, ?_⟩
    · show lenR (addL (addR R r) l) = _
      rw [b, addR_len, e1]; omega
    · show (addL (addR R r) l).length ≤ _
      simp only [List.length_cons]; omega
theorem lenR_le_take (l : List Run) (k : Nat) (h : ∀ r ∈ l, 0 ≤ r.n) : lenR (l.take k) ≤ lenR l := by
  have h2 : lenR l = lenR (l.take k) + lenR (l.drop k) := by rw [← lenR_app, List.take_append_drop]
  have := lenR_nonneg (l.drop k) (fun r hr => h r (List.mem_of_mem_drop hr))
  omega
theorem Fine.n_le {l : List Run} (h : Fine l) {r : Run} (hr : r ∈ l) : r.n ≤ 100000000 := by
  obtain ⟨i, hi, rfl⟩ := List.mem_iff_getElem.1 hr
  have h1 := lenR_take l i hi
  have h2 := lenR_le_take l (i + 1) (fun r hr => (h.el r hr).2.2)
  have h3 := lenR_nonneg (l.take i) (fun r hr => (h.el r (List.mem_of_mem_take hr)).2.2)
  have := h.sum
  omega
theorem addL_goodK {R l : List Run} (hR : Fine R) (hl : Fine l) (k : Nat) : Good (addL R (l.take k)) := by
  obtain ⟨a, b, c⟩ := addL_good hR.el (l := l.take k) (fun q hq => hl.el q (List.mem_of_mem_take hq))
  have h1 := lenR_le_take l k (fun r hr => (hl.el r hr).2.2)
  have h2 := hR.sum
  have h3 := hl.sum
  have h4 := hR.len
  have h5 := hl.len
  have h6 : (l.take k).length ≤ l.length := by simp; omega
  exact ⟨a, by omega, by omega⟩
theorem addAll_q (R l : List Run) (cap : Nat) (hR : Fine R) (hl : Fine l) :
    AC Try.prog G 60 [.one (.ptr 0 0), runsV l] [.box [.bld 1 R.length], .arr cap 2 (R.map Run.e)] fun av os => av = .tup [] ∧ ∃ cap', os = [.box [.bld 1 (addL R l).length], .arr cap' 2 ((addL R l).map Run.e)] := by
  refine AC.drop ?_
  (refine AC.of_codeJ Try.func60 Try.ntmps60 c60_ok r60_ok ?_; unfold c60; simp only [List.length_cons, List.length_nil, List.cons_append, List.nil_append, junks, Nat.reduceAdd, Nat.reduceSub])
  have hln := hl.len
  repeat' (first | (refine AW.sreg ?_) | (refine AW.reg ?_) | (refine AW.seqv ?_) | (refine AW.blockv ?_) | (show WR _ _ _ (⟨_, _, none⟩ :: _) _ _; refine WR.x1 rfl rfl (by (try simp (disch := omega) only [go_sem]); first | done | with_reducible rfl) ?_) | (refine WR.nil ?_; try dsimp only) | (refine AW.skip ?_) | (refine AW.ret ?_) | (refine SeqQ.n ?_) | (refine SeqQ.r ?_) | (refine AW.exit ?_) | (refine SeqQ.e ?_) | (refine BlkQ.n ?_) | (refine BlkQ.r ?_) | (refine BlkQ.e ?_) | (refine BlkQ.o (by decide) ?_) | (refine RndQ.r ?_) | (refine RndQ.e ?_) | (first | show _ = _ | show gOK _ _ _ | (intro _; show _ = _)); ((try simp (disch := omega) only [go_sem]); first | done | with_reducible rfl))
  refine AW.loopG (fun z : Nat × Nat => ⟨[.one (.ptr 0 0), .junk, .junk, .junk, .junk, .junk, runsV l, vi l.length, vi z.1, .junk, .junk, .junk, .junk, .junk, .junk, .junk], [.box [.bld 1 (addL R (l.take z.1)).length], .arr z.2 2 ((addL R (l.take z.1)).map Run.e)]⟩) (fun z => z.1 ≤ l.length) (fun z => l.length - z.1) (0, cap) (Nat.zero_le _) (Gh.sle (by repeat' (first | exact sle_nil | refine sle_cons (VLe.refl _) ?_ | refine sle_cons (VLe.junk _) ?_)) rfl) (fun z hk => ?_)
  obtain ⟨k, cap⟩ := z
  simp only at hk
  by_cases hk' : k < l.length
  · have h1 := hl.el _ (List.getElem_mem hk')
    have h2 := hl.n_le (List.getElem_mem hk')
    repeat' (first | (refine AW.sreg ?_) | (refine AW.reg ?_) | (refine AW.seqv ?_) | (refine AW.blockv ?_) | (show WR _ _ _ (⟨_, _, none⟩ :: _) _ _; refine WR.x1 rfl rfl (by (try simp (disch := omega) only [go_sem]); first | done | with_reducible rfl) ?_) | (refine WR.nil ?_; try dsimp only) | (show WR _ _ _ (⟨_, .call _ _, _⟩ :: _) _ _; first | refine' WR.cL rfl (add_q (addL R (l.take k)) l[k] _ (addL_goodK hR hl k) (by omega)) (by (try simp (disch := omega) only [go_sem]); first | done | with_reducible rfl) ?_ (by (try simp (disch := omega) only [go_sem]); first | done | with_reducible rfl) (by (try simp (disch := omega) only [go_sem]); first | done | with_reducible rfl) (by decide) ?_ (fun cap => ?_)) | (refine AW.skip ?_) | (refine AW.ret ?_) | (refine SeqQ.n ?_) | (refine SeqQ.r ?_) | (refine AW.exit ?_) | (refine SeqQ.e ?_) | (refine BlkQ.n ?_) | (refine BlkQ.r ?_) | (refine BlkQ.e ?_) | (refine BlkQ.o (by decide) ?_) | (refine RndQ.r ?_) | (refine RndQ.e ?_) | (first | show _ = _ | show gOK _ _ _ | (intro _; show _ = _)); ((try simp (disch := omega) only [go_sem]); first | done | with_reducible rfl) | ((first | refine AW.cond (by (try simp (disch := omega) only [go_sem]); first | done | with_reducible rfl) (fun hc => ?_) (fun hc => ?_)) <;> try simp only [go_sem] at hc <;> try first | exact absurd trivial hc | (exfalso; omega)))
    refine RndQ.n (k+1, ‹Nat›) (by show k + 1 ≤ _; omega) (by show _ - (k + 1) < _ - k; omega) ?_
    simp only [addL_take R l k hk']
    exact Gh.dropS 2 (by simp) (by simp only [go_sem, Nat.reduceLeDiff, Nat.reduceEqDiff, decide_true, decide_false]; repeat' (first | exact sle_nil | (with_reducible refine sle_cons (VLe.refl _) ?_) | refine sle_cons (VLe.junk _) ?_ | refine sle_cons (VLe.int (by omega)) ?_ | refine sle_cons (VLe.refl _) ?_)) (by simp [killO, killC, Cel.keep])
  · have hk2 : k = l.length := by omega
    subst hk2
    repeat' (first | (refine AW.sreg ?_) | (refine AW.reg ?_) | (refine AW.seqv ?_) | (refine AW.blockv ?_) | (show WR _ _ _ (⟨_, _, none⟩ :: _) _ _; refine WR.x1 rfl rfl (by (try simp (disch := omega) only [go_sem]); first | done | with_reducible rfl) ?_) | (refine WR.nil ?_; try dsimp only) | (refine AW.skip ?_) | (refine AW.ret ?_) | (refine SeqQ.n ?_) | (refine SeqQ.r ?_) | (refine AW.exit ?_) | (refine SeqQ.e ?_) | (refine BlkQ.n ?_) | (refine BlkQ.r ?_) | (refine BlkQ.e ?_) | (refine BlkQ.o (by decide) ?_) | (refine RndQ.r ?_) | (refine RndQ.e ?_) | (first | show _ = _ | show gOK _ _ _ | (intro _; show _ = _)); ((try simp (disch := omega) only [go_sem]); first | done | with_reducible rfl) | ((first | refine AW.cond (by (try simp (disch := omega) only [go_sem]); first | done | with_reducible rfl) (fun hc => ?_) (fun hc => ?_)) <;> try simp only [go_sem] at hc <;> try first | exact absurd trivial hc | (exfalso; omega)))
    exact Fin.normal (by simp) rfl ⟨rfl, cap, by simp [killO, killC, Cel.keep]⟩
end Go.Proofs.Ytginjcpblgpcoaa
