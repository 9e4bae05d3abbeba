/- What the law of parts compares. Conditions: none. -/
import Derived.Test.YtginjcpblgpcoaaMd
import Derived.Test.YtginjcpblgpcoaaBj
namespace Go.Proofs.Ytginjcpblgpcoaa
set_option maxRecDepth 4000
set_option linter.unusedSimpArgs false
set_option linter.unusedVariables false
attribute [local irreducible] AW WR Gh AC AWL
variable {G : Glob}
attribute [local go_sem] rn Run.v Run.e runsV
theorem copyOwn_q (l : List Run) (hl : l.length ≤ 1000) : AC Try.prog G 12 [runsV l] [] fun av os => ∃ cap, av = .one (.bld 0 l.length) ∧ os = [.arr cap 2 (l.map Run.e)] := by
  (refine AC.of_codeJ Try.func12 Try.ntmps12 c12_ok r12_ok ?_; unfold c12; simp only [List.length_cons, List.length_nil, List.cons_append, List.nil_append, junks, Nat.reduceAdd, Nat.reduceSub])
  have hl2 : ∀ e ∈ l.map Run.e, e.length = 2 := by intro e he; simp at he; obtain ⟨r, _, rfl⟩ := he; rfl
  repeat' (first | (refine AW.sreg ?_) | (refine AW.reg ?_) | (refine AW.seqv ?_) | (show WR _ _ _ (⟨_, _, none⟩ :: _) _ _; refine WR.x1 rfl rfl (by (try simp (disch := omega) only [go_sem]); first | done | with_reducible rfl) ?_) | (refine WR.nil ?_; try dsimp only) | (show WR _ _ _ (⟨_, .app _ _ _ _ _, _⟩ :: _) _ _; first | refine WR.app (by (try simp (disch := omega) only [go_sem]); first | done | with_reducible rfl) rfl (by (try simp (disch := omega) only [go_sem]); first | done | with_reducible rfl) (by (try simp (disch := omega) only [go_sem]); first | done | with_reducible rfl) (by (try simp only [go_sem, List.length_append, List.length_map, List.length_cons, List.length_nil]); first | done | omega) (by (try simp (disch := omega) only [go_sem]); first | done | with_reducible rfl) (by first | assumption | (simp; done) | (intro e he; simp at he; grind)) (by (try simp only [go_sem, List.length_append, List.length_map, List.length_cons, List.length_nil]); first | done | omega) (fun cap hcap => ?_) | refine WR.appNil (by (try simp (disch := omega) only [go_sem]); first | done | with_reducible rfl) rfl (by (try simp (disch := omega) only [go_sem]); first | done | with_reducible rfl) (by (try simp (disch := omega) only [go_sem]); first | done | with_reducible rfl) (by first | assumption | (simp; done) | (intro e he; simp at he; grind)) (by (try simp only [go_sem, List.length_append, List.length_map, List.length_cons, List.length_nil]); first | done | omega) (fun cap hcap => ?_)) | (refine AW.skip ?_) | (refine AW.ret ?_) | (refine SeqQ.n ?_) | (refine SeqQ.r ?_) | (first | show _ = _ | show gOK _ _ _ | (intro _; show _ = _)); ((try simp (disch := omega) only [go_sem]); first | done | with_reducible rfl))
  exact Fin.ret (Nat.zero_le _) rfl ⟨_, rfl, rfl⟩
theorem copyIntsOwn_q (c : List Int) (hl : c.length ≤ 1000000) : AC Try.prog G 23 [vl (el c)] [] fun av os => ∃ cap, av = .one (.bld 0 c.length) ∧ os = [.arr cap 1 (el c)] := by
  (refine AC.of_codeJ Try.func23 Try.ntmps23 c23_ok r23_ok ?_; unfold c23; simp only [List.length_cons, List.length_nil, List.cons_append, List.nil_append, junks, Nat.reduceAdd, Nat.reduceSub])
  have hl2 : ∀ e ∈ el c, e.length = 1 := by intro e he; simp [el] at he; obtain ⟨r, _, rfl⟩ := he; rfl
  have hlen : (el c).length = c.length := by simp [el]
  repeat' (first | (refine AW.sreg ?_) | (refine AW.reg ?_) | (refine AW.seqv ?_) | (show WR _ _ _ (⟨_, _, none⟩ :: _) _ _; refine WR.x1 rfl rfl (by (try simp (disch := omega) only [go_sem, hlen]); first | done | with_reducible rfl) ?_) | (refine WR.nil ?_; try dsimp only) | (show WR _ _ _ (⟨_, .app _ _ _ _ _, _⟩ :: _) _ _; first | refine WR.app (by (try simp (disch := omega) only [go_sem, hlen]); first | done | with_reducible rfl) rfl (by (try simp (disch := omega) only [go_sem, hlen]); first | done | with_reducible rfl) (by (try simp (disch := omega) only [go_sem, hlen]); first | done | with_reducible rfl) (by (try simp only [go_sem, List.length_append, List.length_map, List.length_cons, List.length_nil]); first | done | omega) (by (try simp (disch := omega) only [go_sem, hlen]); first | done | with_reducible rfl) (by first | assumption | (simp; done) | (intro e he; simp at he; grind)) (by (try simp only [go_sem, List.length_append, List.length_map, List.length_cons, List.length_nil]); first | done | omega) (fun cap hcap => ?_) | refine WR.appNil (by (try simp (disch := omega) only [go_sem, hlen]); first | done | with_reducible rfl) rfl (by (try simp (disch := omega) only [go_sem, hlen]); first | done | with_reducible rfl) (by (try simp (disch := omega) only [go_sem, hlen]); first | done | with_reducible rfl) (by first | assumption | (simp; done) | (intro e he; simp at he; grind)) (by (try simp only [go_sem, List.length_append, List.length_map, List.length_cons, List.length_nil]); first | done | omega) (fun cap hcap => ?_)) | (refine AW.skip ?_) | (refine AW.ret ?_) | (refine SeqQ.n ?_) | (refine SeqQ.r ?_) | (first | show _ = _ | show gOK _ _ _ | (intro _; show _ = _)); ((try simp (disch := omega) only [go_sem, hlen]); first | done | with_reducible rfl))
  exact Fin.ret (Nat.zero_le _) rfl ⟨_, rfl, rfl⟩
theorem el_take (c : List Int) (n : Nat) : (el c).take n = el (c.take n) := by simp [el]
theorem el_drop (c : List Int) (n : Nat) : (el c).drop n = el (c.drop n) := by simp [el]
theorem el_app (a b : List Int) : el a ++ el b = el (a ++ b) := by simp [el]
theorem el_len (c : List Int) : (el c).length = c.length := by simp [el]
theorem el_all (c : List Int) : ((el c).all fun e => decide (e.length = 1)) = true := by simp [el]
/-- the error of two runlists that are joined -/
def joinE (a b : List Run) : Int := if (chk a).2 ≠ 0 then (chk a).2 else if (chk b).2 ≠ 0 then (chk b).2 else resE (a ++ b)
theorem app_ok {a b : List Run} (ha : (chk a).2 = 0) (hb : (chk b).2 = 0) : (∀ r ∈ a ++ b, rangeE r.s r.n = 0) ∧ Fine (a ++ b) ∧ (a ++ b).length ≤ 1000 := by
  have h1 := chk_rg ha
  have h2 := chk_rg hb
  refine ⟨fun r hr => ?_, ?_, ?_⟩
  · rcases List.mem_append.1 hr with h | h
    · exact h1 r h
    · exact h2 r h
  · have := errsE_flat (L := [a, b]) (by simp [ha, hb]) (by simp)
    simpa using this
  · have := chk_len ha; have := chk_len hb
    rw [List.length_append]; omega
theorem joinedV_eq (a b : List Run) : joinedV a b = if joinE a b = 0 then (addL [] (a ++ b), 0) else ([], joinE a b) := by
  unfold joinedV joinE
  rw [errs2]
  by_cases ha : (chk a).2 = 0
  · by_cases hb : (chk b).2 = 0
    · obtain ⟨h1, h2, _⟩ := app_ok ha hb
      have hd := done_res h1 h2
      have hfl : [a, b].flatten = a ++ b := by simp
      simp only [ha, hb, ne_eq, not_true_eq_false, if_true, if_false, madeV, hfl, hd]
    · simp [ha, hb]
  · simp [ha]
theorem cutE_eq {a : List Run} (h : (chk a).2 = 0) (x y : Int) : cutE a x y = if (0 ≤ x ∧ x ≤ 4096) ∧ 0 ≤ y ∧ y ≤ 4096 then (if x + y > lenR a then 37 else 0) else 2 := by
  have hb := lenC h
  have hF := chk_fine h
  have hw : lenW a = lenR a := lenW_eq a (fun r hr => (hF.el r hr).2.2) (by omega)
  simp only [cutE, errs1, firstE, h, if_true]
  by_cases h2 : (0 ≤ x ∧ x ≤ 4096) ∧ 0 ≤ y ∧ y ≤ 4096
  · simp only [h2, and_self, if_true, hw]
    rw [wrap64 (by omega)]
    by_cases h3 : x ≤ lenR a - y
    · have : ¬ x + y > lenR a := by omega
      simp [h3, this]
    · have : x + y > lenR a := by omega
      simp [h3, this]
  · simp [h2]
theorem cutE_err {a : List Run} (h : (chk a).2 ≠ 0) (x y : Int) : cutE a x y = (chk a).2 := by
  simp [cutE, errs1, firstE, h]
theorem part_cl {l : List Run} (h : (chk l).2 = 0) {a c : Int} (ha : 0 ≤ a) (hc : 0 ≤ c) : clR (partR l a c) = ((clR l).drop a.toNat).take c.toNat := by
  have h1 := rE_vol (chk_rg h)
  have := clR_part (l := l) (R := []) ha hc (fun r hr => ⟨by have := (h1 r hr).2.1; omega, (h1 r hr).2.2.2⟩)
  simpa [clR, partR] using this
theorem part_pos {l : List Run} (h : (chk l).2 = 0) {a c : Int} (ha : 0 ≤ a) (hc : 0 ≤ c) : ∀ q ∈ partR l a c, 1 ≤ q.n ∧ -1 ≤ q.s := by
  obtain ⟨p1, _, _⟩ := part_all h ha hc
  intro q hq
  obtain ⟨h1, h2, _⟩ := p1 q hq
  rcases h1 with h1 | h1 <;> omega
theorem cl_len {l : List Run} (h : (chk l).2 = 0) : ((clR l).length : Int) = lenR l := clR_len l (fun r hr => by have := (rE_vol (chk_rg h) r hr).2.1; omega)
theorem cutV_eq {a : List Run} (h : (chk a).2 = 0) {x y : Int} (hx : 0 ≤ x ∧ x ≤ 4096) (hy : 0 ≤ y ∧ y ≤ 4096) (hs : x + y ≤ lenR a) : cutV a x y = (fromC (((clR a).take (x + y).toNat).drop x.toNat), 0) := by
  have h0 : cutE a x y = 0 := by rw [cutE_eq h, if_pos ⟨hx, hy⟩, if_neg (by omega)]
  have hfl : [partR a x y].flatten = partR a x y := by simp
  rw [cutV, if_neg (by omega), madeV, hfl, if_pos (done_part h hx.1 hy), ← fromC_clR (part_pos h hx.1 hy.1), part_cl h hx.1 hy.1]
  congr 2
  rw [List.take_drop]
  congr 2
  omega
theorem removedV_eq {a : List Run} (h : (chk a).2 = 0) {x y : Int} (hx : 0 ≤ x ∧ x ≤ 4096) (hy : 0 ≤ y ∧ y ≤ 4096) (hs : x + y ≤ lenR a) : removedV a x y = (fromC ((clR a).take x.toNat ++ (clR a).drop (x + y).toNat), 0) := by
  have h0 : cutE a x y = 0 := by rw [cutE_eq h, if_pos ⟨hx, hy⟩, if_neg (by omega)]
  have hb := lenC h
  have hl := cl_len h
  rw [removedV, if_neg (by omega), ← fromC_clR (l := partR a 0 x ++ partR a (x + y) (lenR a)) (fun q hq => by
    rcases List.mem_append.1 hq with hq | hq
    · exact part_pos h (Int.le_refl _) hx.1 q hq
    · exact part_pos h (by omega) hb.1 q hq), clR_append, part_cl h (Int.le_refl _) hx.1, part_cl h (by omega) hb.1]
  congr 3
  rw [List.take_of_length_le]
  rw [List.length_drop]; omega
theorem cl_bound {l : List Run} (h : (chk l).2 = 0) : ∀ x ∈ clR l, -1 ≤ x ∧ x ≤ 1000 := by
  intro x hx
  simp only [clR, clO, List.mem_flatMap, List.mem_map, List.mem_range] at hx
  obtain ⟨r, hr, k, hk, rfl⟩ := hx
  have := chk_rg h r hr
  have h2 := rE_n this
  rcases rangeE_ok this with ⟨h1, h3, h4⟩ | ⟨s, n, h1, h3, h4, h5⟩
  · simp [h1]
  · have : ¬ r.s = -1 := by omega
    rw [if_neg this]; omega
end Go.Proofs.Ytginjcpblgpcoaa
