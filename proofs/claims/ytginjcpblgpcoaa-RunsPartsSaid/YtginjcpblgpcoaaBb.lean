/- The clusters that are in runs; the check of runlists. Conditions: none. -/
import Derived.Test.YtginjcpblgpcoaaBa
namespace Go.Proofs.Ytginjcpblgpcoaa
set_option maxRecDepth 4000
set_option linter.unusedSimpArgs false
set_option linter.unusedVariables false
attribute [local irreducible] AW WR Gh AC AWL
variable {G : Glob}
attribute [local go_sem] rn Run.v Run.e runsV
def bC (b : Bool) : Cel := rawC (.bool b)
def bx (U : List Bool) : AObj := .box (U.map bC)
/-- the clusters from s on are noted -/
def setR (U : List Bool) (s : Nat) : Nat → List Bool
  | 0 => U
  | k + 1 => (setR U s k).set (s + k) true
def freshR (U : List Bool) (s k : Nat) : Bool := (List.range k).all fun j => !(U.getD (s + j) false)
theorem setR_len (U : List Bool) (s k : Nat) : (setR U s k).length = U.length := by
  induction k with
  | zero => rfl
  | succ k ih => simp [setR, ih]
theorem setR_get (U : List Bool) (s k j : Nat) (h : s + k ≤ j) : (setR U s k)[j]? = U[j]? := by
  induction k with
  | zero => rfl
  | succ k ih =>
    simp only [setR]
    rw [List.getElem?_set_ne (by omega)]
    exact ih (by omega)
theorem freshR_succ (U : List Bool) (s k : Nat) : freshR U s (k + 1) = (freshR U s k && !(U.getD (s + k) false)) := by
  simp [freshR, List.range_succ]
theorem box_load (U : List Bool) (k : Nat) (b : Bool) (h : U[k]? = some b) : ((U.map bC).drop k).take 1 = [bC b] := by
  have hlt : k < U.length := lt_of_get h
  have hb : U[k] = b := by rw [List.getElem?_eq_getElem hlt] at h; exact Option.some.inj h
  rw [← List.map_drop, List.drop_eq_getElem_cons hlt, List.map_cons, hb]
  rfl
theorem box_put (U : List Bool) (k : Nat) (b : Bool) (h : k < U.length) : putAt (U.map bC) k [bC b] = (U.set k b).map bC := by
  unfold putAt
  apply List.ext_getElem?
  intro i
  simp only [List.map_set]
  rw [List.set_eq_take_append_cons_drop]
  simp [h]
theorem kill_bx (p : Nat → Bool) (U : List Bool) : killO p (bx U) = bx U := by
  simp only [killO, bx, List.map_map]
  congr 1
theorem ren_bx (ρ : Nat → Nat) (U : List Bool) : renO ρ (bx U) = bx U := by
  simp only [renO, bx, List.map_map]
  congr 1
theorem flat_bx (U : List Bool) : Flat (bx U) := ⟨fun ρ => ren_bx ρ U, fun p => kill_bx p U⟩
theorem killM (p : Nat → Bool) (U : List Bool) : (U.map bC).map (killC p) = U.map bC := by
  rw [List.map_map]; congr 1
theorem take_hole (U : List Bool) (r : Run) (h : r.s = -1) : AC Try.prog G 71 [.one (.ptr 0 0), r.v] [bx U] fun av o => av = vb true ∧ o = [bx U] := by
  refine AC.drop ?_
  (refine AC.of_codeJ Try.func71 Try.ntmps71 c71_ok r71_ok ?_; unfold c71; simp only [List.length_cons, List.length_nil, List.cons_append, List.nil_append, junks, Nat.reduceAdd, Nat.reduceSub])
  repeat' (first | (refine AW.sreg ?_) | (refine AW.reg ?_) | (refine AW.seqv ?_) | (refine AW.blockv ?_) | (show WR _ _ _ (⟨_, _, none⟩ :: _) _ _; refine WR.x1 rfl rfl (by (try simp (disch := omega) only [go_sem]); first | done | with_reducible rfl) ?_) | (refine WR.nil ?_; try dsimp only) | (show WR _ _ _ (⟨_, _, some _⟩ :: _) _ _; refine WR.xk rfl (by (try simp (disch := omega) only [go_sem]); first | done | with_reducible rfl) ?_) | (show WR _ _ _ (⟨_, .call _ _, _⟩ :: _) _ _; first | refine' WR.cQ rfl (isHole_q r.s r.n) (by (try simp (disch := omega) only [go_sem]); first | done | with_reducible rfl) ?_ ?_ ?_ ?_) | (refine AW.skip ?_) | (refine AW.ret ?_) | (refine SeqQ.n ?_) | (refine SeqQ.r ?_) | (refine AW.exit ?_) | (refine SeqQ.e ?_) | (refine BlkQ.n ?_) | (refine BlkQ.r ?_) | (refine BlkQ.e ?_) | (refine BlkQ.o (by decide) ?_) | (refine RndQ.r ?_) | (refine RndQ.e ?_) | (first | show _ = _ | show gOK _ _ _ | (intro _; show _ = _)); ((try simp (disch := omega) only [go_sem]); first | done | with_reducible rfl) | ((first | refine AW.cond (by (try simp (disch := omega) only [go_sem]); first | done | with_reducible rfl) (fun hc => ?_) (fun hc => ?_) | (refine WR.splitS rfl (by (try simp (disch := omega) only [go_sem]); first | done | with_reducible rfl) (by (try simp (disch := omega) only [go_sem]); first | done | with_reducible rfl) (by (try simp (disch := omega) only [go_sem]); first | done | with_reducible rfl) (fun hc => ?_) (fun hc => ?_); fail_if_success (with_reducible have hz : true = true := hc); fail_if_success (with_reducible have hz : false = true := hc))) <;> try simp only [go_sem] at hc <;> try first | exact absurd trivial hc | (exfalso; omega)))
  exact Fin.ret (by simp) rfl ⟨rfl, by simp [kill_bx]⟩
theorem take_q (U : List Bool) (r : Run) (s n : Nat) (hU : U.length = 512) (h1 : r.s = s) (h2 : r.n = n) (h3 : s + n ≤ 512) :
    AC Try.prog G 71 [.one (.ptr 0 0), r.v] [bx U] fun av o => av = vb (freshR U s n) ∧ o = [bx (setR U s n)] := by
  refine AC.drop ?_
  (refine AC.of_codeJ Try.func71 Try.ntmps71 c71_ok r71_ok ?_; unfold c71; simp only [List.length_cons, List.length_nil, List.cons_append, List.nil_append, junks, Nat.reduceAdd, Nat.reduceSub])
  repeat' (first | (refine AW.sreg ?_) | (refine AW.reg ?_) | (refine AW.seqv ?_) | (refine AW.blockv ?_) | (show WR _ _ _ (⟨_, _, none⟩ :: _) _ _; refine WR.x1 rfl rfl (by (try simp (disch := omega) only [go_sem]); first | done | with_reducible rfl) ?_) | (refine WR.nil ?_; try dsimp only) | (show WR _ _ _ (⟨_, _, some _⟩ :: _) _ _; refine WR.xk rfl (by (try simp (disch := omega) only [go_sem]); first | done | with_reducible rfl) ?_) | (show WR _ _ _ (⟨_, .call _ _, _⟩ :: _) _ _; first | refine' WR.cQ rfl (isHole_q r.s r.n) (by (try simp (disch := omega) only [go_sem]); first | done | with_reducible rfl) ?_ ?_ ?_ ?_) | (refine AW.skip ?_) | (refine AW.ret ?_) | (refine SeqQ.n ?_) | (refine SeqQ.r ?_) | (refine AW.exit ?_) | (refine SeqQ.e ?_) | (refine BlkQ.n ?_) | (refine BlkQ.r ?_) | (refine BlkQ.e ?_) | (refine BlkQ.o (by decide) ?_) | (refine RndQ.r ?_) | (refine RndQ.e ?_) | (first | show _ = _ | show gOK _ _ _ | (intro _; show _ = _)); ((try simp (disch := omega) only [go_sem]); first | done | with_reducible rfl))
  refine AW.cond (by (try simp (disch := omega) only [go_sem]); first | done | with_reducible rfl) (fun hc => ?_) (fun hc => ?_)
  · simp at hc; omega
  · repeat' (first | (refine AW.sreg ?_) | (refine AW.reg ?_) | (refine AW.seqv ?_) | (refine AW.blockv ?_) | (show WR _ _ _ (⟨_, _, none⟩ :: _) _ _; refine WR.x1 rfl rfl (by (try simp (disch := omega) only [go_sem]); first | done | with_reducible rfl) ?_) | (refine WR.nil ?_; try dsimp only) | (show WR _ _ _ (⟨_, _, some _⟩ :: _) _ _; refine WR.xk rfl (by (try simp (disch := omega) only [go_sem]); first | done | with_reducible rfl) ?_) | (refine AW.skip ?_) | (refine AW.ret ?_) | (refine SeqQ.n ?_) | (refine SeqQ.r ?_) | (refine AW.exit ?_) | (refine SeqQ.e ?_) | (refine BlkQ.n ?_) | (refine BlkQ.r ?_) | (refine BlkQ.e ?_) | (refine BlkQ.o (by decide) ?_) | (refine RndQ.r ?_) | (refine RndQ.e ?_) | (first | show _ = _ | show gOK _ _ _ | (intro _; show _ = _)); ((try simp (disch := omega) only [go_sem]); first | done | with_reducible rfl))
    refine AW.loopG (fun k : Nat => ⟨[.one (.ptr 0 0), r.v, .junk, .one (.ptr 1 0), vb false, vb (freshR U s k), vi (r.s + k), .junk, .junk, .junk, .junk, .junk, .junk, .junk, .junk, .junk, .junk, .junk, .junk, .junk, .junk, .junk, .junk, .junk, .junk, .junk, .junk, .junk, .junk, .junk, .junk, .junk, .junk, .junk], [bx (setR U s k), .box [.dc (ci r.s), .dc (ci r.n)]]⟩) (fun k => k ≤ n) (fun k => n - k) 0 (Nat.zero_le _) (by simp only [Int.natCast_zero, Int.add_zero]; exact Gh.sle (by repeat' (first | exact sle_nil | refine sle_cons (VLe.refl _) ?_ | refine sle_cons (VLe.junk _) ?_)) rfl) (fun k hk => ?_)
    by_cases hk' : k < n
    · have hi : (r.s + (k : Int)).toNat = s + k := by omega
      have hlt : (setR U s k).length = 512 := by rw [setR_len, hU]
      have hg : (setR U s k)[s + k]? = some (U.getD (s + k) false) := by
        rw [setR_get U s k (s + k) (Nat.le_refl _), List.getD_eq_getElem?_getD, List.getElem?_eq_getElem (by omega)]
        rfl
      have hl := box_load _ _ _ hg
      have hp2 : List.take (s + k) (List.map bC (setR U s k)) ++ [Cel.dc (DC.raw (.bool true))] ++ List.drop (s + k + 1) (List.map bC (setR U s k)) = List.map bC (setR U s (k + 1)) := box_put (setR U s k) (s + k) true (by omega)
      have hf := freshR_succ U s k
      repeat' (first | (refine AW.sreg ?_) | (refine AW.reg ?_) | (refine AW.seqv ?_) | (refine AW.blockv ?_) | (show WR _ _ _ (⟨_, _, none⟩ :: _) _ _; refine WR.x1 rfl rfl (by (try simp (disch := omega) only [go_sem, bx, hi, Nat.mul_one, hlt, hl, bC, hp2]); first | done | with_reducible rfl) ?_) | (refine WR.nil ?_; try dsimp only) | (show WR _ _ _ (⟨_, _, some _⟩ :: _) _ _; refine WR.xk rfl (by (try simp (disch := omega) only [go_sem, bx, hi, Nat.mul_one, hlt, hl, bC, hp2]); first | done | with_reducible rfl) ?_) | (refine AW.skip ?_) | (refine AW.ret ?_) | (refine SeqQ.n ?_) | (refine SeqQ.r ?_) | (refine AW.exit ?_) | (refine SeqQ.e ?_) | (refine BlkQ.n ?_) | (refine BlkQ.r ?_) | (refine BlkQ.e ?_) | (refine BlkQ.o (by decide) ?_) | (refine RndQ.r ?_) | (refine RndQ.e ?_) | (first | show _ = _ | show gOK _ _ _ | (intro _; show _ = _)); ((try simp (disch := omega) only [go_sem, bx, hi, Nat.mul_one, hlt, hl, bC, hp2]); first | done | with_reducible rfl) | ((first | refine AW.cond (by (try simp (disch := omega) only [go_sem, bx, hi, Nat.mul_one, hlt, hl, bC, hp2]); first | done | with_reducible rfl) (fun hc => ?_) (fun hc => ?_) | (refine WR.splitS rfl (by (try simp (disch := omega) only [go_sem, bx, hi, Nat.mul_one, hlt, hl, bC, hp2]); first | done | with_reducible rfl) (by (try simp (disch := omega) only [go_sem, bx, hi, Nat.mul_one, hlt, hl, bC, hp2]); first | done | with_reducible rfl) (by (try simp (disch := omega) only [go_sem, bx, hi, Nat.mul_one, hlt, hl, bC, hp2]); first | done | with_reducible rfl) (fun hc => ?_) (fun hc => ?_); fail_if_success (with_reducible have hz : true = true := hc); fail_if_success (with_reducible have hz : false = true := hc))) <;> try simp only [go_sem] at hc <;> try first | exact absurd trivial hc | (exfalso; omega)))
      all_goals
        simp only [*, Bool.true_and, Bool.false_and] at hf
        refine RndQ.n (k + 1) (by omega) (by omega) ?_
        simp only [hf]
        exact Gh.dropS 2 (by omega) (by simp only [go_sem, Nat.reduceLeDiff, Nat.reduceEqDiff, decide_true, decide_false]; repeat' (first | exact sle_nil | (with_reducible refine sle_cons (VLe.refl _) ?_) | refine sle_cons (VLe.junk _) ?_ | refine sle_cons (VLe.int (by omega)) ?_ | refine sle_cons (VLe.refl _) ?_)) (by show [killO _ (bx _), _] = _; rw [kill_bx]; rfl)
    · have hk2 : k = n := by omega
      subst hk2
      repeat' (first | (refine AW.sreg ?_) | (refine AW.reg ?_) | (refine AW.seqv ?_) | (refine AW.blockv ?_) | (show WR _ _ _ (⟨_, _, none⟩ :: _) _ _; refine WR.x1 rfl rfl (by (try simp (disch := omega) only [go_sem]); first | done | with_reducible rfl) ?_) | (refine WR.nil ?_; try dsimp only) | (show WR _ _ _ (⟨_, _, some _⟩ :: _) _ _; refine WR.xk rfl (by (try simp (disch := omega) only [go_sem]); first | done | with_reducible rfl) ?_) | (refine AW.skip ?_) | (refine AW.ret ?_) | (refine SeqQ.n ?_) | (refine SeqQ.r ?_) | (refine AW.exit ?_) | (refine SeqQ.e ?_) | (refine BlkQ.n ?_) | (refine BlkQ.r ?_) | (refine BlkQ.e ?_) | (refine BlkQ.o (by decide) ?_) | (refine RndQ.r ?_) | (refine RndQ.e ?_) | (first | show _ = _ | show gOK _ _ _ | (intro _; show _ = _)); ((try simp (disch := omega) only [go_sem]); first | done | with_reducible rfl) | ((first | refine AW.cond (by (try simp (disch := omega) only [go_sem]); first | done | with_reducible rfl) (fun hc => ?_) (fun hc => ?_) | (refine WR.splitS rfl (by (try simp (disch := omega) only [go_sem]); first | done | with_reducible rfl) (by (try simp (disch := omega) only [go_sem]); first | done | with_reducible rfl) (by (try simp (disch := omega) only [go_sem]); first | done | with_reducible rfl) (fun hc => ?_) (fun hc => ?_); fail_if_success (with_reducible have hz : true = true := hc); fail_if_success (with_reducible have hz : false = true := hc))) <;> try simp only [go_sem] at hc <;> try first | exact absurd trivial hc | (exfalso; omega)))
      exact Fin.ret (by simp) rfl ⟨rfl, by simp only [List.take_succ_cons, List.take_zero, List.map_cons, List.map_nil, List.length_cons, List.length_nil]; exact congrArg (· :: []) (kill_bx _ _)⟩
/-- the clusters of a run are noted -/
def Run.into (r : Run) (U : List Bool) : List Bool := if r.s = -1 then U else setR U r.s.toNat r.n.toNat
def Run.fresh (r : Run) (U : List Bool) : Bool := if r.s = -1 then true else freshR U r.s.toNat r.n.toNat
def U0 : List Bool := List.replicate 512 false
/-- the error of a run behind others, and the clusters behind it -/
def stepE (p : Option Run) (U : List Bool) (r : Run) : Int := if rangeE r.s r.n ≠ 0 then rangeE r.s r.n else if (p.any fun q => joinsB q r) = true then 3 else if r.fresh U then 0 else 23
def chkL (all : List Run) : List Run → Option Run → List Bool → Nat → Int × Int
  | [], _, _, _ => (0, if lenR all ≤ 4096 then 0 else 8)
  | r :: rest, p, U, i => if stepE p U r ≠ 0 then ((i : Int), stepE p U r) else chkL all rest (some r) (r.into U) (i + 1)
def chk (l : List Run) : Int × Int := if (l.length : Int) > 64 then (0, 8) else chkL l l none U0 0
theorem rangeE_ok {r : Run} (h : rangeE r.s r.n = 0) : (r.s = -1 ∧ 1 ≤ r.n ∧ r.n ≤ 4096) ∨ ∃ s n : Nat, r.s = s ∧ r.n = n ∧ s + n ≤ 512 ∧ 1 ≤ n := by
  unfold rangeE at h
  split at h
  · rename_i h1
    split at h
    · rename_i h2; exact .inl ⟨h1, h2.1, h2.2⟩
    · omega
  · split at h
    · rename_i h1 h2
      split at h
      · rename_i h3
        exact .inr ⟨r.s.toNat, r.n.toNat, by omega, by omega, by omega, by omega⟩
      · omega
    · omega
/-- used.take, of any run in its range -/
theorem take_any (U : List Bool) (r : Run) (hU : U.length = 512) (h : rangeE r.s r.n = 0) : AC Try.prog G 71 [.one (.ptr 0 0), r.v] [bx U] fun av o => av = vb (r.fresh U) ∧ o = [bx (r.into U)] := by
  rcases rangeE_ok h with ⟨h1, _⟩ | ⟨s, n, h1, h2, h3, _⟩
  · have := take_hole (G := G) U r h1
    simpa only [Run.fresh, Run.into, h1, if_true] using this
  · have := take_q (G := G) U r s n hU h1 h2 h3
    have hne : ¬ r.s = -1 := by omega
    have e1 : r.s.toNat = s := by omega
    have e2 : r.n.toNat = n := by omega
    simpa only [Run.fresh, Run.into, hne, if_false, e1, e2] using this
theorem into_len (U : List Bool) (r : Run) : (r.into U).length = U.length := by
  unfold Run.into
  split
  · rfl
  · exact setR_len _ _ _
def Uk (l : List Run) (k : Nat) : List Bool := (l.take k).foldl (fun U r => r.into U) U0
def prevK (l : List Run) (k : Nat) : Option Run := if k = 0 then none else l[k - 1]?
theorem Uk_len (l : List Run) (k : Nat) : (Uk l k).length = 512 := by
  unfold Uk
  have : ∀ (l : List Run) (U : List Bool), (l.foldl (fun U r => r.into U) U).length = U.length := by
    intro l
    induction l with
    | nil => intro U; rfl
    | cons r l ih => intro U; rw [List.foldl_cons, ih, into_len]
  rw [this]; simp [U0]
theorem Uk_succ (l : List Run) (k : Nat) (h : k < l.length) : Uk l (k + 1) = l[k].into (Uk l k) := by
  unfold Uk
  rw [List.take_succ_eq_append_getElem h, List.foldl_append]
  rfl
theorem chkL_at {l : List Run} {p : Option Run} {U : List Bool} {k : Nat} (hk : k < l.length) : chkL l (l.drop k) p U k = if stepE p U l[k] ≠ 0 then ((k : Int), stepE p U l[k]) else chkL l (l.drop (k + 1)) (some l[k]) (l[k].into U) (k + 1) := by
  rw [List.drop_eq_getElem_cons hk, chkL]
theorem stepE_at {l : List Run} {k : Nat} (U : List Bool) (hk : k < l.length) : stepE (prevK l k) U l[k] = if rangeE l[k].s l[k].n ≠ 0 then rangeE l[k].s l[k].n else if 0 < k ∧ joinsB (l[k-1]'(by omega)) l[k] = true then 3 else if l[k].fresh U = true then 0 else 23 := by
  unfold stepE prevK
  by_cases h0 : k = 0
  · simp [h0]
  · have h1 : l[k-1]? = some (l[k-1]'(by omega)) := List.getElem?_eq_getElem (by omega)
    have h2 : 0 < k := by omega
    simp only [h0, if_false, h1, Option.any_some, h2, true_and]
theorem bd_of {r : Run} (h : rangeE r.s r.n = 0) : -9223372036854775808 ≤ r.s + r.n ∧ r.s + r.n ≤ 9223372036854775807 := by
  rcases rangeE_ok h with h | ⟨s, n, h⟩ <;> omega
theorem bn_of {r : Run} (h : rangeE r.s r.n = 0) : 0 ≤ r.n ∧ r.n ≤ 5000 := by
  rcases rangeE_ok h with h | ⟨s, n, h⟩ <;> omega
theorem rg_le {l : List Run} {k : Nat} (hrg : ∀ (j : Nat) r, j < k → l[j]? = some r → rangeE r.s r.n = 0) (hk : k < l.length) (h : rangeE l[k].s l[k].n = 0) : ∀ (j : Nat) r, j < k + 1 → l[j]? = some r → rangeE r.s r.n = 0 := by
  intro j r hj hr
  rcases Nat.lt_or_ge j k with h1 | h1
  · exact hrg j r h1 hr
  · have : j = k := by omega
    subst this
    rw [List.getElem?_eq_getElem hk] at hr; injection hr with hr; subst hr; exact h
theorem rg_all {l : List Run} (hrg : ∀ (j : Nat) r, j < l.length → l[j]? = some r → rangeE r.s r.n = 0) : ∀ r ∈ l, rangeE r.s r.n = 0 := by
  intro r hr
  obtain ⟨j, hj⟩ := List.mem_iff_getElem?.1 hr
  exact hrg j r (lt_of_get hj) hj
theorem chk_q (l : List Run) (hl : l.length ≤ 1000) : QC Try.prog G 34 [runsV l] (.tup [.one (.dc (.raw (.int .i64 (chk l).1))), .one (.dc (.raw (.int .i64 (chk l).2)))]) := by
  (refine QC.drop ?_ rfl; refine AC.nz ?_; refine AC.of_codeJ Try.func34 Try.ntmps34 c34_ok r34_ok ?_; unfold c34; simp only [List.length_cons, List.length_nil, List.cons_append, List.nil_append, junks, Nat.reduceAdd, Nat.reduceSub])
  repeat' (first | (refine AW.sreg ?_) | (refine AW.reg ?_) | (refine AW.seqv ?_) | (refine AW.blockv ?_) | (refine AW.sdrawn ?_) | (refine AW.drawnv ?_) | (show WR _ _ _ (⟨_, _, none⟩ :: _) _ _; refine WR.x1 rfl rfl (by (try simp (disch := omega) only [go_sem]); first | done | with_reducible rfl) ?_) | (show AWL _ _ _ _ ((_, ⟨_, _, none⟩) :: _) _; refine WD.x1 rfl rfl (by (try simp (disch := omega) only [go_sem]); first | done | with_reducible rfl) ?_) | (refine WR.nil ?_; try dsimp only) | (refine WD.nil ?_; try dsimp only) | (show AWL _ _ _ _ ((_, ⟨_, _, some _⟩) :: _) _; refine WD.xk rfl (by (try simp (disch := omega) only [go_sem]); first | done | with_reducible rfl) ?_) | (refine AW.skip ?_) | (refine AW.ret ?_) | (refine SeqQ.n ?_) | (refine SeqQ.r ?_) | (refine AW.exit ?_) | (refine SeqQ.e ?_) | (refine BlkQ.n ?_) | (refine BlkQ.r ?_) | (refine BlkQ.e ?_) | (refine BlkQ.o (by decide) ?_) | (refine RndQ.r ?_) | (refine RndQ.e ?_) | (first | show _ = _ | show gOK _ _ _ | (intro _; show _ = _)); ((try simp (disch := omega) only [go_sem]); first | done | with_reducible rfl))
  refine AW.cond (by (try simp (disch := omega) only [go_sem]); first | done | with_reducible rfl) (fun hc => ?_) (fun hc => ?_)
  · have h1 : (l.length : Int) > 64 := by simpa using hc
    have h2 : chk l = (0, 8) := by rw [chk, if_pos h1]
    repeat' (first | (refine AW.sreg ?_) | (refine AW.reg ?_) | (refine AW.seqv ?_) | (refine AW.blockv ?_) | (refine AW.sdrawn ?_) | (refine AW.drawnv ?_) | (show WR _ _ _ (⟨_, _, none⟩ :: _) _ _; refine WR.x1 rfl rfl (by (try simp (disch := omega) only [go_sem]); first | done | with_reducible rfl) ?_) | (show AWL _ _ _ _ ((_, ⟨_, _, none⟩) :: _) _; refine WD.x1 rfl rfl (by (try simp (disch := omega) only [go_sem]); first | done | with_reducible rfl) ?_) | (refine WR.nil ?_; try dsimp only) | (refine WD.nil ?_; try dsimp only) | (show AWL _ _ _ _ ((_, ⟨_, _, some _⟩) :: _) _; refine WD.xk rfl (by (try simp (disch := omega) only [go_sem]); first | done | with_reducible rfl) ?_) | (refine AW.skip ?_) | (refine AW.ret ?_) | (refine SeqQ.n ?_) | (refine SeqQ.r ?_) | (refine AW.exit ?_) | (refine SeqQ.e ?_) | (refine BlkQ.n ?_) | (refine BlkQ.r ?_) | (refine BlkQ.e ?_) | (refine BlkQ.o (by decide) ?_) | (refine RndQ.r ?_) | (refine RndQ.e ?_) | (first | show _ = _ | show gOK _ _ _ | (intro _; show _ = _)); ((try simp (disch := omega) only [go_sem]); first | done | with_reducible rfl))
    (refine Fin.ret (by first | exact Nat.zero_le _ | simp) rfl ?_; (try simp (disch := omega) only [go_sem, h2]); first | done | with_reducible rfl | (simp [h2]; done) | (simp [h2]; grind) | rfl)
  · have h1 : ¬ (l.length : Int) > 64 := by simpa using hc
    have hU0 : AObj.box (List.replicate 512 (.dc (.raw (.bool false)))) = bx U0 := by rw [bx, U0, List.map_replicate]; rfl
    repeat' (first | (refine AW.sreg ?_) | (refine AW.reg ?_) | (refine AW.seqv ?_) | (refine AW.blockv ?_) | (refine AW.sdrawn ?_) | (refine AW.drawnv ?_) | (show WR _ _ _ (⟨_, _, none⟩ :: _) _ _; refine WR.x1 rfl rfl (by (try simp (disch := omega) only [go_sem, hU0]); first | done | with_reducible rfl) ?_) | (show AWL _ _ _ _ ((_, ⟨_, _, none⟩) :: _) _; refine WD.x1 rfl rfl (by (try simp (disch := omega) only [go_sem, hU0]); first | done | with_reducible rfl) ?_) | (refine WR.nil ?_; try dsimp only) | (refine WD.nil ?_; try dsimp only) | (show AWL _ _ _ _ ((_, ⟨_, _, some _⟩) :: _) _; refine WD.xk rfl (by (try simp (disch := omega) only [go_sem, hU0]); first | done | with_reducible rfl) ?_) | (refine AW.skip ?_) | (refine AW.ret ?_) | (refine SeqQ.n ?_) | (refine SeqQ.r ?_) | (refine AW.exit ?_) | (refine SeqQ.e ?_) | (refine BlkQ.n ?_) | (refine BlkQ.r ?_) | (refine BlkQ.e ?_) | (refine BlkQ.o (by decide) ?_) | (refine RndQ.r ?_) | (refine RndQ.e ?_) | (first | show _ = _ | show gOK _ _ _ | (intro _; show _ = _)); ((try simp (disch := omega) only [go_sem, hU0]); first | done | with_reducible rfl))
    refine AW.loopG (fun k : Nat => ⟨[runsV l, .junk, vi 0, vi 0, .one (.ptr 0 0), .junk, .junk, .junk, .junk, .junk, .junk, runsV l, vi l.length, vi k, .junk, .junk, .junk, .junk, .junk, .junk, .junk, .junk, .junk, .junk, .junk, .junk, .junk, .junk, .junk, .junk, .junk, .junk, .junk, .junk, .junk, .junk, .junk, .junk, .junk, .junk, .junk, .junk, .junk, .junk, .junk], [bx (Uk l k)]⟩)
      (fun k => k ≤ l.length ∧ chk l = chkL l (l.drop k) (prevK l k) (Uk l k) k ∧ ∀ (j : Nat) r, j < k → l[j]? = some r → rangeE r.s r.n = 0) (fun k => l.length - k) 0 ⟨Nat.zero_le _, by rw [chk, if_neg h1]; rfl, fun j r h => by omega⟩ (Gh.sle (by repeat' (first | exact sle_nil | refine sle_cons (VLe.refl _) ?_ | refine sle_cons (VLe.junk _) ?_)) rfl) (fun k hk => ?_)
    obtain ⟨hk, hch, hrg⟩ := hk
    by_cases hk' : k < l.length
    · rw [chkL_at hk', stepE_at (Uk l k) hk'] at hch
      have hkt : ((k : Int) - 1).toNat = k - 1 := by omega
      have hpk : prevK l (k + 1) = some l[k] := by simp [prevK, List.getElem?_eq_getElem hk']
      repeat' (first | (refine AW.sreg ?_) | (refine AW.reg ?_) | (refine AW.seqv ?_) | (refine AW.blockv ?_) | (refine AW.sdrawn ?_) | (refine AW.drawnv ?_) | (show WR _ _ _ (⟨_, _, none⟩ :: _) _ _; refine WR.x1 rfl rfl (by (try simp (disch := omega) only [go_sem, hkt]); first | done | with_reducible rfl) ?_) | (show AWL _ _ _ _ ((_, ⟨_, _, none⟩) :: _) _; refine WD.x1 rfl rfl (by (try simp (disch := omega) only [go_sem, hkt]); first | done | with_reducible rfl) ?_) | (refine WR.nil ?_; try dsimp only) | (refine WD.nil ?_; try dsimp only) | (show AWL _ _ _ _ ((_, ⟨_, _, some _⟩) :: _) _; refine WD.xk rfl (by (try simp (disch := omega) only [go_sem, hkt]); first | done | with_reducible rfl) ?_) | (show WR _ _ _ (⟨_, .call _ _, _⟩ :: _) _ _; first | refine' WR.cQ rfl (rangeErr_q _ _) (by (try simp (disch := omega) only [go_sem, hkt]); first | done | with_reducible rfl) ?_ ?_ ?_ ?_ | refine' WR.cQ rfl (joins_q l[k-1] l[k] (bd_of (hrg (k-1) _ (by omega) (List.getElem?_eq_getElem (by omega))))) (by (try simp (disch := omega) only [go_sem, hkt]); first | done | with_reducible rfl) ?_ ?_ ?_ ?_) | (show AWL _ _ _ _ ((_, ⟨_, .call _ _, _⟩) :: _) _; first | refine' WD.cQ rfl (rangeErr_q _ _) (fun _ => (by (try simp (disch := omega) only [go_sem, hkt]); first | done | with_reducible rfl)) ?_ ?_ ?_ ?_ | refine' WD.cQ rfl (joins_q l[k-1] l[k] (bd_of (hrg (k-1) _ (by omega) (List.getElem?_eq_getElem (by omega))))) (fun _ => (by (try simp (disch := omega) only [go_sem, hkt]); first | done | with_reducible rfl)) ?_ ?_ ?_ ?_) | (show WR _ _ _ (⟨_, .call _ _, _⟩ :: _) _ _; first | refine' WR.cB rfl (take_any (Uk l k) l[k] (Uk_len l k) ‹_›) (by (try simp (disch := omega) only [go_sem, hkt]); first | done | with_reducible rfl) ?_ (by (try simp (disch := omega) only [go_sem, hkt]); first | done | with_reducible rfl) rfl (by first | exact flat_bx _ | exact Flat.arr _ _ _ | exact Flat.boxdc (by simp)) (by first | exact flat_bx _ | exact Flat.arr _ _ _ | exact Flat.boxdc (by simp)) ?_ ?_ ?_) | (refine AW.skip ?_) | (refine AW.ret ?_) | (refine SeqQ.n ?_) | (refine SeqQ.r ?_) | (refine AW.exit ?_) | (refine SeqQ.e ?_) | (refine BlkQ.n ?_) | (refine BlkQ.r ?_) | (refine BlkQ.e ?_) | (refine BlkQ.o (by decide) ?_) | (refine RndQ.r ?_) | (refine RndQ.e ?_) | (first | show _ = _ | show gOK _ _ _ | (intro _; show _ = _)); ((try simp (disch := omega) only [go_sem, hkt]); first | done | with_reducible rfl) | ((first | refine AW.cond (by (try simp (disch := omega) only [go_sem, hkt]); first | done | with_reducible rfl) (fun hc => ?_) (fun hc => ?_) | (refine WD.splitS rfl (by (try simp (disch := omega) only [go_sem, hkt]); first | done | with_reducible rfl) (by (try simp (disch := omega) only [go_sem, hkt]); first | done | with_reducible rfl) (by (try simp (disch := omega) only [go_sem, hkt]); first | done | with_reducible rfl) (fun hc => ?_) (fun hc => ?_); fail_if_success (with_reducible have hz : true = true := hc); fail_if_success (with_reducible have hz : false = true := hc))) <;> try simp only [go_sem] at hc <;> try first | exact absurd trivial hc | (exfalso; omega)))
      all_goals by_cases h0 : 0 < k <;> first | (exfalso; omega) | skip
      all_goals simp [*] at hch
      all_goals first | (refine RndQ.n (k + 1) ⟨by omega, by rw [hpk, Uk_succ l k hk']; exact hch, rg_le hrg hk' ‹_›⟩ (by omega) (Gh.dropS 1 (by omega) (by simp only [go_sem, Nat.reduceLeDiff, Nat.reduceEqDiff, decide_true, decide_false]; repeat' (first | exact sle_nil | (with_reducible refine sle_cons (VLe.refl _) ?_) | refine sle_cons (VLe.junk _) ?_ | refine sle_cons (VLe.int (by omega)) ?_ | refine sle_cons (VLe.refl _) ?_)) ?_); rw [Uk_succ l k hk']; exact congrArg (· :: []) (kill_bx _ _)) | (refine Fin.ret (by first | exact Nat.zero_le _ | simp) rfl ?_; (try simp (disch := omega) only [go_sem, hch]); first | done | with_reducible rfl | (simp [hch]; done) | (simp [hch]; grind) | rfl)
    · have hk2 : k = l.length := by omega
      subst hk2
      rw [List.drop_length, chkL] at hch
      repeat' (first | (refine AW.sreg ?_) | (refine AW.reg ?_) | (refine AW.seqv ?_) | (refine AW.blockv ?_) | (refine AW.sdrawn ?_) | (refine AW.drawnv ?_) | (show WR _ _ _ (⟨_, _, none⟩ :: _) _ _; refine WR.x1 rfl rfl (by (try simp (disch := omega) only [go_sem]); first | done | with_reducible rfl) ?_) | (show AWL _ _ _ _ ((_, ⟨_, _, none⟩) :: _) _; refine WD.x1 rfl rfl (by (try simp (disch := omega) only [go_sem]); first | done | with_reducible rfl) ?_) | (refine WR.nil ?_; try dsimp only) | (refine WD.nil ?_; try dsimp only) | (show AWL _ _ _ _ ((_, ⟨_, _, some _⟩) :: _) _; refine WD.xk rfl (by (try simp (disch := omega) only [go_sem]); first | done | with_reducible rfl) ?_) | (show WR _ _ _ (⟨_, .call _ _, _⟩ :: _) _ _; first | refine' WR.cQ rfl (length_q l hl (fun r hr => bn_of (rg_all hrg r hr))) (by (try simp (disch := omega) only [go_sem]); first | done | with_reducible rfl) ?_ ?_ ?_ ?_ | refine' WR.cQ rfl (unless_q _ 8) (by (try simp (disch := omega) only [go_sem]); first | done | with_reducible rfl) ?_ ?_ ?_ ?_) | (show AWL _ _ _ _ ((_, ⟨_, .call _ _, _⟩) :: _) _; first | refine' WD.cQ rfl (length_q l hl (fun r hr => bn_of (rg_all hrg r hr))) (fun _ => (by (try simp (disch := omega) only [go_sem]); first | done | with_reducible rfl)) ?_ ?_ ?_ ?_ | refine' WD.cQ rfl (unless_q _ 8) (fun _ => (by (try simp (disch := omega) only [go_sem]); first | done | with_reducible rfl)) ?_ ?_ ?_ ?_) | (refine AW.skip ?_) | (refine AW.ret ?_) | (refine SeqQ.n ?_) | (refine SeqQ.r ?_) | (refine AW.exit ?_) | (refine SeqQ.e ?_) | (refine BlkQ.n ?_) | (refine BlkQ.r ?_) | (refine BlkQ.e ?_) | (refine BlkQ.o (by decide) ?_) | (refine RndQ.r ?_) | (refine RndQ.e ?_) | (first | show _ = _ | show gOK _ _ _ | (intro _; show _ = _)); ((try simp (disch := omega) only [go_sem]); first | done | with_reducible rfl) | ((first | refine AW.cond (by (try simp (disch := omega) only [go_sem]); first | done | with_reducible rfl) (fun hc => ?_) (fun hc => ?_) | (refine WD.splitS rfl (by (try simp (disch := omega) only [go_sem]); first | done | with_reducible rfl) (by (try simp (disch := omega) only [go_sem]); first | done | with_reducible rfl) (by (try simp (disch := omega) only [go_sem]); first | done | with_reducible rfl) (fun hc => ?_) (fun hc => ?_); fail_if_success (with_reducible have hz : true = true := hc); fail_if_success (with_reducible have hz : false = true := hc))) <;> try simp only [go_sem] at hc <;> try first | exact absurd trivial hc | (exfalso; omega)))
      all_goals (refine Fin.ret (by first | exact Nat.zero_le _ | simp) rfl ?_; (try simp (disch := omega) only [go_sem, hch]); first | done | with_reducible rfl | (simp [hch]; done) | (simp [hch]; grind) | rfl)
def lls (L : List (List Run)) : List (List DC) := L.map fun l => [.slc (l.map Run.e)]
def errsE (L : List (List Run)) : Int := firstE (L.map fun l => (chk l).2)
theorem runsErr_q (L : List (List Run)) (hL : L.length ≤ 1000) (hl : ∀ l ∈ L, l.length ≤ 1000) : QC Try.prog G 47 [vl (lls L)] (vi (errsE L)) := by
  (refine QC.drop ?_ rfl; refine AC.nz ?_; refine AC.of_codeJ Try.func47 Try.ntmps47 c47_ok r47_ok ?_; unfold c47; simp only [List.length_cons, List.length_nil, List.cons_append, List.nil_append, junks, Nat.reduceAdd, Nat.reduceSub])
  have hlen : (lls L).length = L.length := by simp [lls]
  repeat' (first | (refine AW.sreg ?_) | (refine AW.reg ?_) | (refine AW.seqv ?_) | (refine AW.blockv ?_) | (show WR _ _ _ (⟨_, _, none⟩ :: _) _ _; refine WR.x1 rfl rfl (by (try simp (disch := omega) only [go_sem, hlen]); first | done | with_reducible rfl) ?_) | (refine WR.nil ?_; try dsimp only) | (refine AW.skip ?_) | (refine AW.ret ?_) | (refine SeqQ.n ?_) | (refine SeqQ.r ?_) | (refine AW.exit ?_) | (refine SeqQ.e ?_) | (refine BlkQ.n ?_) | (refine BlkQ.r ?_) | (refine BlkQ.e ?_) | (refine BlkQ.o (by decide) ?_) | (refine RndQ.r ?_) | (refine RndQ.e ?_) | (first | show _ = _ | show gOK _ _ _ | (intro _; show _ = _)); ((try simp (disch := omega) only [go_sem, hlen]); first | done | with_reducible rfl))
  refine AW.loopG (fun k : Nat => ⟨[vl (lls L), .junk, vi 0, .junk, .junk, .junk, .junk, vl (lls L), vi L.length, vi k, .junk, .junk, .junk, .junk, .junk, .junk, .junk, .junk, .junk, .junk, .junk, .junk], []⟩) (fun k => k ≤ L.length ∧ ∀ j, j < k → (L.map fun l => (chk l).2).getD j 0 = 0) (fun k => L.length - k) 0 ⟨Nat.zero_le _, fun j h => by omega⟩ (Gh.sle (by repeat' (first | exact sle_nil | refine sle_cons (VLe.refl _) ?_ | refine sle_cons (VLe.junk _) ?_)) rfl) (fun k hk => ?_)
  obtain ⟨hk, hz⟩ := hk
  by_cases hk' : k < L.length
  · have hr : (lls L)[k]? = some [.slc (L[k].map Run.e)] := by simp [lls, hk']
    have hf : errsE L = if (chk L[k]).2 = 0 then errsE (L.drop (k + 1)) else (chk L[k]).2 := by
      rw [errsE, firstE_drop _ k hz, List.drop_eq_getElem_cons (by simpa using hk'), firstE]
      simp [errsE]
    repeat' (first | (refine AW.sreg ?_) | (refine AW.reg ?_) | (refine AW.seqv ?_) | (refine AW.blockv ?_) | (show WR _ _ _ (⟨_, _, none⟩ :: _) _ _; refine WR.x1 rfl rfl (by (try simp (disch := omega) only [go_sem, hlen, hr]); first | done | with_reducible rfl) ?_) | (refine WR.nil ?_; try dsimp only) | (show WR _ _ _ (⟨_, .call _ _, _⟩ :: _) _ _; first | refine' WR.cQ rfl (chk_q L[k] (hl _ (List.getElem_mem hk'))) (by (try simp (disch := omega) only [go_sem, hlen, hr]); first | done | with_reducible rfl) ?_ ?_ ?_ ?_) | (refine AW.skip ?_) | (refine AW.ret ?_) | (refine SeqQ.n ?_) | (refine SeqQ.r ?_) | (refine AW.exit ?_) | (refine SeqQ.e ?_) | (refine BlkQ.n ?_) | (refine BlkQ.r ?_) | (refine BlkQ.e ?_) | (refine BlkQ.o (by decide) ?_) | (refine RndQ.r ?_) | (refine RndQ.e ?_) | (first | show _ = _ | show gOK _ _ _ | (intro _; show _ = _)); ((try simp (disch := omega) only [go_sem, hlen, hr]); first | done | with_reducible rfl) | ((first | refine AW.cond (by (try simp (disch := omega) only [go_sem, hlen, hr]); first | done | with_reducible rfl) (fun hc => ?_) (fun hc => ?_)) <;> try simp only [go_sem] at hc <;> try first | exact absurd trivial hc | (exfalso; omega)))
    · rw [if_neg ‹_›] at hf
      (refine Fin.ret (by first | exact Nat.zero_le _ | simp) rfl ?_; (try simp (disch := omega) only [go_sem, hf]); first | done | with_reducible rfl | (simp [hf]; done) | (simp [hf]; grind) | rfl)
    · refine RndQ.n (k+1) ⟨by omega, fun j hj => ?_⟩ (by omega) (Gh.dropS 0 (Nat.le_refl _) (by simp only [go_sem, Nat.reduceLeDiff, Nat.reduceEqDiff, decide_true, decide_false]; repeat' (first | exact sle_nil | (with_reducible refine sle_cons (VLe.refl _) ?_) | refine sle_cons (VLe.junk _) ?_ | refine sle_cons (VLe.int (by omega)) ?_ | refine sle_cons (VLe.refl _) ?_)) rfl)
      by_cases hjk : j < k
      · exact hz j hjk
      · have : j = k := by omega
        subst this
        simp [List.getD_eq_getElem?_getD, hk', *]
  · have hk2 : k = L.length := by omega
    subst hk2
    have hf : errsE L = 0 := by rw [errsE, firstE_drop _ L.length hz, List.drop_of_length_le (by simp)]; rfl
    repeat' (first | (refine AW.sreg ?_) | (refine AW.reg ?_) | (refine AW.seqv ?_) | (refine AW.blockv ?_) | (show WR _ _ _ (⟨_, _, none⟩ :: _) _ _; refine WR.x1 rfl rfl (by (try simp (disch := omega) only [go_sem, hlen]); first | done | with_reducible rfl) ?_) | (refine WR.nil ?_; try dsimp only) | (refine AW.skip ?_) | (refine AW.ret ?_) | (refine SeqQ.n ?_) | (refine SeqQ.r ?_) | (refine AW.exit ?_) | (refine SeqQ.e ?_) | (refine BlkQ.n ?_) | (refine BlkQ.r ?_) | (refine BlkQ.e ?_) | (refine BlkQ.o (by decide) ?_) | (refine RndQ.r ?_) | (refine RndQ.e ?_) | (first | show _ = _ | show gOK _ _ _ | (intro _; show _ = _)); ((try simp (disch := omega) only [go_sem, hlen]); first | done | with_reducible rfl) | ((first | refine AW.cond (by (try simp (disch := omega) only [go_sem, hlen]); first | done | with_reducible rfl) (fun hc => ?_) (fun hc => ?_)) <;> try simp only [go_sem] at hc <;> try first | exact absurd trivial hc | (exfalso; omega)))
    (refine Fin.ret (by first | exact Nat.zero_le _ | simp) rfl ?_; (try simp (disch := omega) only [go_sem, hf]); first | done | with_reducible rfl | (simp [hf]; done) | (simp [hf]; grind) | rfl)
end Go.Proofs.Ytginjcpblgpcoaa
