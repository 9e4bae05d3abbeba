/- Cut, Removed, Joined. Conditions: none. -/
import Derived.Test.YtginjcpblgpcoaaBh
namespace Go.Proofs.Ytginjcpblgpcoaa
set_option maxRecDepth 4000
set_option linter.unusedSimpArgs false
set_option linter.unusedVariables false
attribute [local irreducible] AW WR Gh AC AWL
variable {G : Glob}
attribute [local go_sem] rn Run.v Run.e runsV
theorem refErr_q' (l : List Run) (hl : l.length ≤ 1000) : QC Try.prog G 13 [runsV l] (vi (chk l).2) := by rw [chk_eq]; exact refErr_q l hl
theorem copy_q (l : List Run) (hl : l.length ≤ 1000) : QC Try.prog G 12 [runsV l] (runsV l) := copyRuns_q (l.map Run.e) (fun e he => by simp at he; obtain ⟨r, _, rfl⟩ := he; rfl) (by simp; omega)
theorem chk_or (l : List Run) : (chk l).2 = 0 ∨ (chk l).2 ≠ 0 := by omega
theorem lenC {l : List Run} (h : (chk l).2 = 0) : 0 ≤ lenR l ∧ lenR l ≤ 4096 := by
  have h1 := chk_rg h
  have h2 := chk_len h
  refine ⟨lenR_nonneg l (fun r hr => (bn_of (h1 r hr)).1), ?_⟩
  have key : ∀ (all l : List Run) p U i, (chkL all l p U i).2 = 0 → lenR all ≤ 4096 := by
    intro all l
    induction l with
    | nil => intro p U i h; rw [chkL] at h; simp only at h; split at h <;> first | assumption | omega
    | cons r l ih =>
      intro p U i h
      rw [chkL] at h
      split at h
      · rename_i h1; exact absurd h h1
      · exact ih _ _ _ h
  unfold chk at h
  split at h
  · cases h
  · exact key _ _ _ _ _ h
def cutE (l : List Run) (a c : Int) : Int := firstE [errsE [l], if (0 ≤ a ∧ a ≤ 4096) ∧ 0 ≤ c ∧ c ≤ 4096 then 0 else 2, if a ≤ IntKind.i64.wrap (lenW l - c) then 0 else 37]
set_option maxHeartbeats 1000000 in
theorem cutErr_q (l : List Run) (a c : Int) (hl : l.length ≤ 1000) : QC Try.prog G 59 [runsV l, vi a, vi c] (vi (cutE l a c)) := by
  (refine QC.drop ?_ rfl; refine AC.nz ?_; refine AC.of_codeJ Try.func59 Try.ntmps59 c59_ok r59_ok ?_; unfold c59; simp only [List.length_cons, List.length_nil, List.cons_append, List.nil_append, junks, Nat.reduceAdd, Nat.reduceSub])
  by_cases h1 : 0 ≤ a ∧ a ≤ 4096
  all_goals by_cases h2 : 0 ≤ c ∧ c ≤ 4096
  all_goals
    repeat' (first | (refine AW.sreg ?_) | (refine AW.reg ?_) | (refine AW.seqv ?_) | (show WR _ _ _ (⟨_, _, none⟩ :: _) _ _; refine WR.x1 rfl rfl (by (try simp (disch := omega) only [go_sem, lls, el, h1, h2]); first | done | with_reducible rfl) ?_) | (refine WR.nil ?_; try dsimp only) | (show WR _ _ _ (⟨_, _, some _⟩ :: _) _ _; refine WR.xk rfl (by (try simp (disch := omega) only [go_sem, lls, el, h1, h2]); first | done | with_reducible rfl) ?_) | (show WR _ _ _ (⟨_, .call _ _, _⟩ :: _) _ _; first | refine' WR.cQ rfl (runsErr_q [l] (by simp) (by simpa using hl)) (by (try simp (disch := omega) only [go_sem, lls, el, h1, h2]); first | done | with_reducible rfl) ?_ ?_ ?_ ?_ | refine' WR.cQ rfl (within_q _ _ _) (by (try simp (disch := omega) only [go_sem, lls, el, h1, h2]); first | done | with_reducible rfl) ?_ ?_ ?_ ?_ | refine' WR.cQ rfl (unless_q _ _) (by (try simp (disch := omega) only [go_sem, lls, el, h1, h2]); first | done | with_reducible rfl) ?_ ?_ ?_ ?_ | refine' WR.cQ rfl (length_any l (by omega)) (by (try simp (disch := omega) only [go_sem, lls, el, h1, h2]); first | done | with_reducible rfl) ?_ ?_ ?_ ?_ | refine' WR.cQ rfl (first_q [_, _, _] (by simp)) (by (try simp (disch := omega) only [go_sem, lls, el, h1, h2]); first | done | with_reducible rfl) ?_ ?_ ?_ ?_) | (refine AW.skip ?_) | (refine AW.ret ?_) | (refine SeqQ.n ?_) | (refine SeqQ.r ?_) | (first | show _ = _ | show gOK _ _ _ | (intro _; show _ = _)); ((try simp (disch := omega) only [go_sem, lls, el, h1, h2]); first | done | with_reducible rfl) | ((first | refine AW.cond (by (try simp (disch := omega) only [go_sem, lls, el, h1, h2]); first | done | with_reducible rfl) (fun hc => ?_) (fun hc => ?_) | (refine WR.splitS rfl (by (try simp (disch := omega) only [go_sem, lls, el, h1, h2]); first | done | with_reducible rfl) (by (try simp (disch := omega) only [go_sem, lls, el, h1, h2]); first | done | with_reducible rfl) (by (try simp (disch := omega) only [go_sem, lls, el, h1, h2]); first | done | with_reducible rfl) (fun hc => ?_) (fun hc => ?_); fail_if_success (with_reducible have hz : true = true := hc); fail_if_success (with_reducible have hz : false = true := hc))) <;> try simp only [go_sem] at hc <;> try first | exact absurd trivial hc | (exfalso; omega)))
    (refine Fin.ret (by first | exact Nat.zero_le _ | simp) rfl ?_; (try simp (disch := omega) only [go_sem, cutE, h1, h2]); first | done | with_reducible rfl | (simp [cutE, h1, h2]; done) | (simp [cutE, h1, h2]; grind) | rfl)
theorem chk_fine {l : List Run} (h : (chk l).2 = 0) : Fine l := by
  have h1 := chk_rg h
  have h2 := chk_len h
  have h3 := lenC h
  exact ⟨fun q hq => by have := rE_n (h1 q hq); omega, by omega, by omega⟩
theorem errs1 (l : List Run) : errsE [l] = (chk l).2 := by
  simp only [errsE, List.map_cons, List.map_nil, firstE]; split <;> simp_all
theorem errs2 (a b : List Run) : errsE [a, b] = if (chk a).2 = 0 then (chk b).2 else (chk a).2 := by
  simp only [errsE, List.map_cons, List.map_nil, firstE]; split <;> (try split) <;> simp_all
theorem errsE_flat {L : List (List Run)} (h : ∀ l ∈ L, (chk l).2 = 0) (hL : L.length ≤ 10) : Fine L.flatten := by
  have key : ∀ L : List (List Run), (∀ l ∈ L, (chk l).2 = 0) → (∀ q ∈ L.flatten, -1 ≤ q.s ∧ q.s ≤ 1000 ∧ 0 ≤ q.n) ∧ lenR L.flatten ≤ 4096 * L.length ∧ L.flatten.length ≤ 64 * L.length := by
    intro L
    induction L with
    | nil => intro _; simp [lenR]
    | cons l L ih =>
      intro h
      obtain ⟨a, b, c⟩ := ih (fun l hl => h l (List.mem_cons_of_mem _ hl))
      have h0 := h l List.mem_cons_self
      have h1 := (chk_fine h0).el
      have h2 := lenC h0
      have h3 := chk_len h0
      refine ⟨fun q hq => ?_, ?_, ?_⟩
      · rw [List.flatten_cons, List.mem_append] at hq
        rcases hq with hq | hq
        · exact h1 q hq
        · exact a q hq
      · rw [List.flatten_cons, lenR_app, List.length_cons]; omega
      · rw [List.flatten_cons, List.length_append, List.length_cons]; omega
  obtain ⟨a, b, c⟩ := key L h
  exact ⟨a, by omega, by omega⟩
def joinedV (a b : List Run) : List Run × Int := if errsE [a, b] ≠ 0 then ([], errsE [a, b]) else madeV [a, b]
theorem joined_q (a b : List Run) (ha : a.length ≤ 1000) (hb : b.length ≤ 1000) (hv : errsE [a, b] = 0 → ∀ r ∈ addL [] (a ++ b), Vol r) : QC Try.prog G 28 [runsV a, runsV b] (.tup [.one (.dc (.slc ((joinedV a b).1.map Run.e))), .one (.dc (ci (joinedV a b).2))]) := by
  (refine QC.drop ?_ rfl; refine AC.nz ?_; refine AC.of_codeJ Try.func28 Try.ntmps28 c28_ok r28_ok ?_; unfold c28; simp only [List.length_cons, List.length_nil, List.cons_append, List.nil_append, junks, Nat.reduceAdd, Nat.reduceSub])
  by_cases h0 : errsE [a, b] = 0
  · have hf : joinedV a b = madeV [a, b] := by rw [joinedV, if_neg (by omega)]
    have hE : ∀ l ∈ [a, b], (chk l).2 = 0 := by
      rw [errs2] at h0
      split at h0 <;> simp_all
    have hfl : [a, b].flatten = a ++ b := by simp
    have hv' : ∀ r ∈ addL [] [a, b].flatten, Vol r := by rw [hfl]; exact hv h0
    repeat' (first | (refine AW.sreg ?_) | (refine AW.reg ?_) | (refine AW.seqv ?_) | (show WR _ _ _ (⟨_, _, none⟩ :: _) _ _; refine WR.x1 rfl rfl (by (try simp (disch := omega) only [go_sem, lls]); first | done | with_reducible rfl) ?_) | (refine WR.nil ?_; try dsimp only) | (show WR _ _ _ (⟨_, .call _ _, _⟩ :: _) _ _; first | refine' WR.cQ rfl (runsErr_q [a, b] (by simp) (by simp; omega)) (by (try simp (disch := omega) only [go_sem, lls]); first | done | with_reducible rfl) ?_ ?_ ?_ ?_ | refine' WR.cQ rfl (made_q [a, b] (by simp) (errsE_flat hE (by simp)) hv') (by (try simp (disch := omega) only [go_sem, lls]); first | done | with_reducible rfl) ?_ ?_ ?_ ?_) | (refine AW.skip ?_) | (refine AW.ret ?_) | (refine SeqQ.n ?_) | (refine SeqQ.r ?_) | (first | show _ = _ | show gOK _ _ _ | (intro _; show _ = _)); ((try simp (disch := omega) only [go_sem, lls]); first | done | with_reducible rfl) | ((first | refine AW.cond (by (try simp (disch := omega) only [go_sem, lls]); first | done | with_reducible rfl) (fun hc => ?_) (fun hc => ?_)) <;> try simp only [go_sem] at hc <;> try first | exact absurd trivial hc | (exfalso; omega)))
    (refine Fin.ret (by first | exact Nat.zero_le _ | simp) rfl ?_; (try simp (disch := omega) only [go_sem, hf]); first | done | with_reducible rfl | (simp [hf]; done) | (simp [hf]; grind) | rfl)
  · have hf : joinedV a b = ([], errsE [a, b]) := by rw [joinedV, if_pos (by omega)]
    repeat' (first | (refine AW.sreg ?_) | (refine AW.reg ?_) | (refine AW.seqv ?_) | (show WR _ _ _ (⟨_, _, none⟩ :: _) _ _; refine WR.x1 rfl rfl (by (try simp (disch := omega) only [go_sem, lls]); first | done | with_reducible rfl) ?_) | (refine WR.nil ?_; try dsimp only) | (show WR _ _ _ (⟨_, .call _ _, _⟩ :: _) _ _; first | refine' WR.cQ rfl (runsErr_q [a, b] (by simp) (by simp; omega)) (by (try simp (disch := omega) only [go_sem, lls]); first | done | with_reducible rfl) ?_ ?_ ?_ ?_) | (refine AW.skip ?_) | (refine AW.ret ?_) | (refine SeqQ.n ?_) | (refine SeqQ.r ?_) | (first | show _ = _ | show gOK _ _ _ | (intro _; show _ = _)); ((try simp (disch := omega) only [go_sem, lls]); first | done | with_reducible rfl) | ((first | refine AW.cond (by (try simp (disch := omega) only [go_sem, lls]); first | done | with_reducible rfl) (fun hc => ?_) (fun hc => ?_)) <;> try simp only [go_sem] at hc <;> try first | exact absurd trivial hc | (exfalso; omega)))
    (refine Fin.ret (by first | exact Nat.zero_le _ | simp) rfl ?_; (try simp (disch := omega) only [go_sem, hf]); first | done | with_reducible rfl | (simp [hf]; done) | (simp [hf]; grind) | rfl)
def cutV (l : List Run) (a c : Int) : List Run × Int := if cutE l a c ≠ 0 then ([], cutE l a c) else madeV [partR l a c]
def removedV (l : List Run) (a c : Int) : List Run × Int := if cutE l a c ≠ 0 then ([], cutE l a c) else (addL [] (partR l 0 a ++ partR l (a + c) (lenR l)), 0)
theorem cutE_ok {l : List Run} {a c : Int} (h : cutE l a c = 0) : (chk l).2 = 0 ∧ (0 ≤ a ∧ a ≤ 4096) ∧ (0 ≤ c ∧ c ≤ 4096) ∧ a + c ≤ lenR l := by
  simp only [cutE, errs1, firstE] at h
  have h1 : (chk l).2 = 0 := by
    by_cases h1 : (chk l).2 = 0
    · exact h1
    · rw [if_neg h1] at h; exact absurd h h1
  have hb := lenC h1
  have hF := chk_fine h1
  have hw : lenW l = lenR l := lenW_eq l (fun r hr => (hF.el r hr).2.2) (by omega)
  by_cases h2 : (0 ≤ a ∧ a ≤ 4096) ∧ 0 ≤ c ∧ c ≤ 4096
  · simp only [h1, h2, if_true, and_self, hw] at h
    rw [wrap64 (by omega)] at h
    by_cases h3 : a ≤ lenR l - c
    · exact ⟨h1, h2.1, h2.2, by omega⟩
    · simp [h3] at h
  · simp [h1, h2] at h
theorem partK_el (l : List Run) (a c : Int) (ha : 0 ≤ a) (hc : 0 ≤ c) (hl : ∀ r ∈ l, Vol r ∧ r.s ≤ 1000) (k : Nat) (hk : k ≤ l.length) : (∀ q ∈ (partK l a c k).2.2, Vol q ∧ 1 ≤ q.n ∧ q.s ≤ 1000) ∧ lenR (partK l a c k).2.2 = c - (partK l a c k).2.1 := by
  induction k with
  | zero => simp [partK, lenR]
  | succ k ih =>
    obtain ⟨i1, i2⟩ := ih (by omega)
    obtain ⟨h1, h2, h3, h4, h5⟩ := partK_ok l a c ha hc (fun r hr => by rcases (hl r hr).1 with h | h <;> omega) k (by omega)
    obtain ⟨hv, hs⟩ := hl l[k] (List.getElem_mem (by omega))
    rw [partK_succ l a c k (by omega)]
    rcases hs2 : partK l a c k with ⟨s1, s2, R⟩
    rw [hs2] at h1 h2 h3 h4 h5 i1 i2
    simp only at h1 h2 h3 h4 h5 i1 i2
    have hn : 0 ≤ l[k].n := by rcases hv with h | h <;> omega
    simp only [pst]
    generalize hkk : (if l[k].n < s1 then l[k].n else s1) = kk
    have k1 : 0 ≤ kk ∧ kk ≤ l[k].n := by rw [← hkk]; split <;> omega
    generalize hnn : (if l[k].n - kk < s2 then l[k].n - kk else s2) = nn
    have n1 : 0 ≤ nn ∧ nn ≤ l[k].n - kk := by rw [← hnn]; split <;> omega
    by_cases h0 : nn = 0
    · simp only [h0, if_true]
      exact ⟨i1, by omega⟩
    · simp only [h0, if_false]
      refine ⟨fun q hq => ?_, ?_⟩
      · rcases List.mem_append.1 hq with hq | hq
        · exact i1 q hq
        · have : q = ⟨if l[k].s = -1 then -1 else l[k].s + kk, nn⟩ := by simpa using hq
          subst this
          by_cases h6 : l[k].s = -1
          · rw [if_pos h6]
            exact ⟨.inl ⟨rfl, by show 0 ≤ nn; omega⟩, by show 1 ≤ nn; omega, by show (-1 : Int) ≤ 1000; omega⟩
          · rw [if_neg h6]
            rcases hv with hv | hv
            · exact absurd hv.1 h6
            · exact ⟨.inr ⟨by show 0 ≤ l[k].s + kk; omega, by show 1 ≤ nn; omega, by show l[k].s + kk + nn ≤ 512; omega⟩, by show 1 ≤ nn; omega, by show l[k].s + kk ≤ 1000; omega⟩
      · have e1 : lenR [(⟨if l[k].s = -1 then -1 else l[k].s + kk, nn⟩ : Run)] = nn := by simp [lenR]
        rw [lenR_app, i2, e1]; omega
theorem partR_eq (l : List Run) (a c : Int) : partR l a c = (partK l a c l.length).2.2 := by rw [partK, List.take_length]; rfl
theorem chk_vol {l : List Run} (h : (chk l).2 = 0) : ∀ r ∈ l, Vol r ∧ r.s ≤ 1000 := by
  intro r hr
  rcases rangeE_ok (chk_rg h r hr) with ⟨h1, h2, h3⟩ | ⟨s, n, h1, h2, h3, h4⟩
  · exact ⟨.inl ⟨h1, by omega⟩, by omega⟩
  · exact ⟨.inr ⟨by omega, by omega, by omega⟩, by omega⟩
theorem part_all {l : List Run} (h : (chk l).2 = 0) {a c : Int} (ha : 0 ≤ a) (hc : 0 ≤ c) : (∀ q ∈ partR l a c, Vol q ∧ 1 ≤ q.n ∧ q.s ≤ 1000) ∧ lenR (partR l a c) ≤ c ∧ (partR l a c).length ≤ l.length := by
  rw [partR_eq]
  obtain ⟨h1, h2⟩ := partK_el l a c ha hc (chk_vol h) l.length (Nat.le_refl _)
  obtain ⟨_, _, h3, _, h5⟩ := partK_ok l a c ha hc (fun r hr => by rcases (chk_vol h r hr).1 with h | h <;> omega) l.length (Nat.le_refl _)
  exact ⟨h1, by omega, h5⟩
theorem part_fine {l : List Run} (h : (chk l).2 = 0) {a c : Int} (ha : 0 ≤ a) (hc : 0 ≤ c ∧ c ≤ 1000000) : Fine (partR l a c) := by
  obtain ⟨h1, h2, h3⟩ := part_all h ha hc.1
  have := chk_len h
  exact ⟨fun q hq => by rcases (h1 q hq).1 with h | h <;> have := (h1 q hq).2 <;> omega, by omega, by omega⟩
theorem joins_at {q r : Run} (h : joinsB q r = true) : (q.s = -1 ∧ r.s = -1) ∨ (q.s ≠ -1 ∧ r.s ≠ -1 ∧ q.s + q.n = r.s) := by
  unfold joinsB at h
  by_cases h1 : q.s = -1 <;> by_cases h2 : r.s = -1 <;> simp [h1, h2] at h ⊢
  omega
theorem addR_vol {R : List Run} {r : Run} (hR : ∀ q ∈ R, Vol q) (hr : Vol r) : ∀ q ∈ addR R r, Vol q := by
  rcases List.eq_nil_or_concat R with rfl | ⟨R', q, rfl⟩
  · rw [addR_nil]; simpa using hr
  · rw [List.concat_eq_append] at *
    rw [addR_snoc]
    have hq := hR q (by simp)
    intro p hp
    split at hp
    · rcases List.mem_append.1 hp with h1 | h1
      · exact hR p (by simp [h1])
      · have : p = ⟨q.s, q.n + r.n⟩ := by simpa using h1
        subst this
        rename_i hj
        unfold Vol at hq hr ⊢
        rcases joins_at hj with h | h <;> simp only <;> omega
    · rcases List.mem_append.1 hp with h1 | h1
      · exact hR p h1
      · have : p = r := by simpa using h1
        subst this; exact hr
theorem addL_vol {l : List Run} : ∀ {R : List Run}, (∀ q ∈ R, Vol q) → (∀ q ∈ l, Vol q) → ∀ q ∈ addL R l, Vol q := by
  induction l with
  | nil => intro R hR _; exact hR
  | cons r l ih => intro R hR hl; exact ih (R := addR R r) (addR_vol hR (hl r List.mem_cons_self)) (fun q hq => hl q (List.mem_cons_of_mem _ hq))
theorem chk_volA {l : List Run} (h : (chk l).2 = 0) : ∀ r ∈ addL [] l, Vol r := addL_vol (by simp) (fun q hq => (chk_vol h q hq).1)
set_option maxHeartbeats 1000000 in
theorem cut_q (l : List Run) (a c : Int) (hl : l.length ≤ 1000) : QC Try.prog G 26 [runsV l, vi a, vi c] (.tup [.one (.dc (.slc ((cutV l a c).1.map Run.e))), .one (.dc (ci (cutV l a c).2))]) := by
  (refine QC.drop ?_ rfl; refine AC.nz ?_; refine AC.of_codeJ Try.func26 Try.ntmps26 c26_ok r26_ok ?_; unfold c26; simp only [List.length_cons, List.length_nil, List.cons_append, List.nil_append, junks, Nat.reduceAdd, Nat.reduceSub])
  by_cases h0 : cutE l a c = 0
  · have hf : cutV l a c = madeV [partR l a c] := by rw [cutV, if_neg (by omega)]
    obtain ⟨h1, h2, h3, h4⟩ := cutE_ok h0
    have hF := part_fine h1 h2.1 (show 0 ≤ c ∧ c ≤ 1000000 by omega)
    have hfl : [partR l a c].flatten = partR l a c := by simp
    have hv : ∀ r ∈ addL [] [partR l a c].flatten, Vol r := by rw [hfl]; exact addL_vol (by simp) (fun q hq => ((part_all h1 h2.1 h3.1).1 q hq).1)
    repeat' (first | (refine AW.sreg ?_) | (refine AW.reg ?_) | (refine AW.seqv ?_) | (show WR _ _ _ (⟨_, _, none⟩ :: _) _ _; refine WR.x1 rfl rfl (by (try simp (disch := omega) only [go_sem, lls, h0]); first | done | with_reducible rfl) ?_) | (refine WR.nil ?_; try dsimp only) | (show WR _ _ _ (⟨_, .call _ _, _⟩ :: _) _ _; first | refine' WR.cQ rfl (cutErr_q l a c hl) (by (try simp (disch := omega) only [go_sem, lls, h0]); first | done | with_reducible rfl) ?_ ?_ ?_ ?_ | refine' WR.cQ rfl (part_q l a c (chk_fine h1) (by omega) (by omega)) (by (try simp (disch := omega) only [go_sem, lls, h0]); first | done | with_reducible rfl) ?_ ?_ ?_ ?_ | refine' WR.cQ rfl (made_q [partR l a c] (by simp) (by rw [hfl]; exact hF) hv) (by (try simp (disch := omega) only [go_sem, lls, h0]); first | done | with_reducible rfl) ?_ ?_ ?_ ?_) | (refine AW.skip ?_) | (refine AW.ret ?_) | (refine SeqQ.n ?_) | (refine SeqQ.r ?_) | (first | show _ = _ | show gOK _ _ _ | (intro _; show _ = _)); ((try simp (disch := omega) only [go_sem, lls, h0]); first | done | with_reducible rfl) | ((first | refine AW.cond (by (try simp (disch := omega) only [go_sem, lls, h0]); first | done | with_reducible rfl) (fun hc => ?_) (fun hc => ?_)) <;> try simp only [go_sem] at hc <;> try first | exact absurd trivial hc | (exfalso; omega)))
    all_goals first | (simp at hc; done) | (refine Fin.ret (by first | exact Nat.zero_le _ | simp) rfl ?_; (try simp (disch := omega) only [go_sem, hf]); first | done | with_reducible rfl | (simp [hf]; done) | (simp [hf]; grind) | rfl)
  · have hf : cutV l a c = ([], cutE l a c) := by rw [cutV, if_pos (by omega)]
    repeat' (first | (refine AW.sreg ?_) | (refine AW.reg ?_) | (refine AW.seqv ?_) | (show WR _ _ _ (⟨_, _, none⟩ :: _) _ _; refine WR.x1 rfl rfl (by (try simp (disch := omega) only [go_sem]); first | done | with_reducible rfl) ?_) | (refine WR.nil ?_; try dsimp only) | (show WR _ _ _ (⟨_, .call _ _, _⟩ :: _) _ _; first | refine' WR.cQ rfl (cutErr_q l a c hl) (by (try simp (disch := omega) only [go_sem]); first | done | with_reducible rfl) ?_ ?_ ?_ ?_) | (refine AW.skip ?_) | (refine AW.ret ?_) | (refine SeqQ.n ?_) | (refine SeqQ.r ?_) | (first | show _ = _ | show gOK _ _ _ | (intro _; show _ = _)); ((try simp (disch := omega) only [go_sem]); first | done | with_reducible rfl) | ((first | refine AW.cond (by (try simp (disch := omega) only [go_sem]); first | done | with_reducible rfl) (fun hc => ?_) (fun hc => ?_)) <;> try simp only [go_sem] at hc <;> try first | exact absurd trivial hc | (exfalso; omega)))
    (refine Fin.ret (by first | exact Nat.zero_le _ | simp) rfl ?_; (try simp (disch := omega) only [go_sem, hf]); first | done | with_reducible rfl | (simp [hf]; done) | (simp [hf]; grind) | rfl)
set_option maxHeartbeats 1000000 in
theorem removed_q (l : List Run) (a c : Int) (hl : l.length ≤ 1000) : QC Try.prog G 27 [runsV l, vi a, vi c] (.tup [.one (.dc (.slc ((removedV l a c).1.map Run.e))), .one (.dc (ci (removedV l a c).2))]) := by
  by_cases h0 : cutE l a c = 0
  · have hf : removedV l a c = (addL [] (partR l 0 a ++ partR l (a + c) (lenR l)), 0) := by rw [removedV, if_neg (by omega)]
    obtain ⟨h1, h2, h3, h4⟩ := cutE_ok h0
    have hb := lenC h1
    have hF1 := part_fine (a := 0) (c := a) h1 (Int.le_refl _) (by omega)
    have hF2 := part_fine (a := a + c) (c := lenR l) h1 (by omega) (by omega)
    rw [hf, addL_app]
    refine QC.frz (R := fun av o => ∃ cap, av = .tup [.one (.bld 1 (addL (addL [] (partR l 0 a)) (partR l (a + c) (lenR l))).length), .one (.dc (ci 0))] ∧ o = [.box [.bld 1 (addL (addL [] (partR l 0 a)) (partR l (a + c) (lenR l))).length], .arr cap 2 ((addL (addL [] (partR l 0 a)) (partR l (a + c) (lenR l))).map Run.e)]) ?_ ?_
    · (refine AC.of_codeJ Try.func27 Try.ntmps27 c27_ok r27_ok ?_; unfold c27; simp only [List.length_cons, List.length_nil, List.cons_append, List.nil_append, junks, Nat.reduceAdd, Nat.reduceSub])
      repeat' (first | (refine AW.sreg ?_) | (refine AW.reg ?_) | (refine AW.seqv ?_) | (show WR _ _ _ (⟨_, _, none⟩ :: _) _ _; refine WR.x1 rfl rfl (by (try simp (disch := omega) only [go_sem, h0]); first | done | with_reducible rfl) ?_) | (refine WR.nil ?_; try dsimp only) | (show WR _ _ _ (⟨_, .call _ _, _⟩ :: _) _ _; first | refine' WR.cQ rfl (cutErr_q l a c hl) (by (try simp (disch := omega) only [go_sem, h0]); first | done | with_reducible rfl) ?_ ?_ ?_ ?_) | (refine AW.skip ?_) | (refine AW.ret ?_) | (refine SeqQ.n ?_) | (refine SeqQ.r ?_) | (first | show _ = _ | show gOK _ _ _ | (intro _; show _ = _)); ((try simp (disch := omega) only [go_sem, h0]); first | done | with_reducible rfl))
      refine AW.cond (by (try simp (disch := omega) only [go_sem, h0]); first | done | with_reducible rfl) (fun hc => ?_) (fun hc => ?_)
      · simp at hc
      · repeat' (first | (refine AW.sreg ?_) | (refine AW.reg ?_) | (refine AW.seqv ?_) | (show WR _ _ _ (⟨_, _, none⟩ :: _) _ _; refine WR.x1 rfl rfl (by (try simp (disch := omega) only [go_sem]); first | done | with_reducible rfl) ?_) | (refine WR.nil ?_; try dsimp only) | (refine AW.skip ?_) | (refine AW.ret ?_) | (refine SeqQ.n ?_) | (refine SeqQ.r ?_) | (first | show _ = _ | show gOK _ _ _ | (intro _; show _ = _)); ((try simp (disch := omega) only [go_sem]); first | done | with_reducible rfl))
        refine WR.ghost (Gh.nilB (id := 0) (j := 0) 2 rfl rfl) ?_
        simp only [List.set_cons_succ, List.set_cons_zero, List.cons_append, List.nil_append, List.length_cons, List.length_nil, Nat.reduceAdd]
        repeat' (first | (refine AW.sreg ?_) | (refine AW.reg ?_) | (refine AW.seqv ?_) | (show WR _ _ _ (⟨_, _, none⟩ :: _) _ _; refine WR.x1 rfl rfl (by (try simp (disch := omega) only [go_sem]); first | done | with_reducible rfl) ?_) | (refine WR.nil ?_; try dsimp only) | (show WR _ _ _ (⟨_, .call _ _, _⟩ :: _) _ _; first | refine' WR.cQ rfl (part_q l 0 a (chk_fine h1) (by omega) (by omega)) (by (try simp (disch := omega) only [go_sem]); first | done | with_reducible rfl) ?_ ?_ ?_ ?_ | refine' WR.cQ rfl (part_q l (a + c) (lenR l) (chk_fine h1) (by omega) (by omega)) (by (try simp (disch := omega) only [go_sem]); first | done | with_reducible rfl) ?_ ?_ ?_ ?_ | refine' WR.cQ rfl (length_q l hl (fun r hr => bn_of (chk_rg h1 r hr))) (by (try simp (disch := omega) only [go_sem]); first | done | with_reducible rfl) ?_ ?_ ?_ ?_) | (show WR _ _ _ (⟨_, .call _ _, _⟩ :: _) _ _; first | refine' WR.cL rfl (addAll_q [] (partR l 0 a) _ Fine.nil hF1) (by (try simp (disch := omega) only [go_sem]); first | done | with_reducible rfl) ?_ (by (try simp (disch := omega) only [go_sem]); first | done | with_reducible rfl) (by (try simp (disch := omega) only [go_sem]); first | done | with_reducible rfl) (by decide) ?_ (fun cap => ?_) | refine' WR.cL rfl (addAll_q (addL [] (partR l 0 a)) (partR l (a + c) (lenR l)) _ hF1.add hF2) (by (try simp (disch := omega) only [go_sem]); first | done | with_reducible rfl) ?_ (by (try simp (disch := omega) only [go_sem]); first | done | with_reducible rfl) (by (try simp (disch := omega) only [go_sem]); first | done | with_reducible rfl) (by decide) ?_ (fun cap => ?_)) | (refine AW.skip ?_) | (refine AW.ret ?_) | (refine SeqQ.n ?_) | (refine SeqQ.r ?_) | (first | show _ = _ | show gOK _ _ _ | (intro _; show _ = _)); ((try simp (disch := omega) only [go_sem]); first | done | with_reducible rfl))
        all_goals exact Fin.ret (by simp) rfl ⟨_, rfl, rfl⟩
    · rintro av o ⟨cap, rfl, rfl⟩
      generalize addL (addL [] (partR l 0 a)) (partR l (a + c) (lenR l)) = R
      have e1 : (R.map Run.e).take R.length = R.map Run.e := List.take_of_length_le (by simp)
      simp [idsV, idsT, idsC, frzIds, hpGet, frzV, frzC, frzT, killV, killT, killC, Cel.keep, e1]
  · have hf : removedV l a c = ([], cutE l a c) := by rw [removedV, if_pos (by omega)]
    rw [hf]
    (refine QC.drop ?_ rfl; refine AC.nz ?_; refine AC.of_codeJ Try.func27 Try.ntmps27 c27_ok r27_ok ?_; unfold c27; simp only [List.length_cons, List.length_nil, List.cons_append, List.nil_append, junks, Nat.reduceAdd, Nat.reduceSub])
    repeat' (first | (refine AW.sreg ?_) | (refine AW.reg ?_) | (refine AW.seqv ?_) | (show WR _ _ _ (⟨_, _, none⟩ :: _) _ _; refine WR.x1 rfl rfl (by (try simp (disch := omega) only [go_sem]); first | done | with_reducible rfl) ?_) | (refine WR.nil ?_; try dsimp only) | (show WR _ _ _ (⟨_, .call _ _, _⟩ :: _) _ _; first | refine' WR.cQ rfl (cutErr_q l a c hl) (by (try simp (disch := omega) only [go_sem]); first | done | with_reducible rfl) ?_ ?_ ?_ ?_) | (refine AW.skip ?_) | (refine AW.ret ?_) | (refine SeqQ.n ?_) | (refine SeqQ.r ?_) | (first | show _ = _ | show gOK _ _ _ | (intro _; show _ = _)); ((try simp (disch := omega) only [go_sem]); first | done | with_reducible rfl) | ((first | refine AW.cond (by (try simp (disch := omega) only [go_sem]); first | done | with_reducible rfl) (fun hc => ?_) (fun hc => ?_)) <;> try simp only [go_sem] at hc <;> try first | exact absurd trivial hc | (exfalso; omega)))
    (refine Fin.ret (by first | exact Nat.zero_le _ | simp) rfl ?_; (try simp (disch := omega) only [go_sem]); first | done | with_reducible rfl | (simp []; done) | (simp []; grind) | rfl)
end Go.Proofs.Ytginjcpblgpcoaa
