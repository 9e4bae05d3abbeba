/- RunsParts returns true for every input, and each argument reads afterwards as it read before. Conditions: none. -/
import Derived.Test.YtginjcpblgpcoaaBm
import Derived.Test.YtginjcpblgpcoaaBn
import Derived.Test.YtginjcpblgpcoaaBu
import Derived.Test.YtginjcpblgpcoaaBv
import Derived.Test.YtginjcpblgpcoaaBw
import Derived.Test.YtginjcpblgpcoaaMf
import Derived.Test.YtginjcpblgpcoaaRows
import Derived.ProofKit
namespace Go.Proofs.Ytginjcpblgpcoaa
set_option maxRecDepth 4000
set_option linter.unusedSimpArgs false
set_option linter.unusedVariables false
attribute [local irreducible] AW WR Gh AC AWL
variable {G : Glob}
attribute [local go_sem] rn Run.v Run.e runsV
theorem RunsParts_q (a b : List Run) (x y : Int) (hx : -9223372036854775808 ≤ x ∧ x ≤ 9223372036854775807) (hy : -9223372036854775808 ≤ y ∧ y ≤ 9223372036854775807) : QC Try.prog G0 5 [runsV a, runsV b, .agg [.dc (ci x), .dc (ci y)]] (vb true) := by
  by_cases ha : a.length ≤ 80
  · by_cases hb : b.length ≤ 80
    · by_cases he : (chk a).2 = 0
      · by_cases c1 : (0 ≤ x ∧ x ≤ 4096) ∧ 0 ≤ y ∧ y ≤ 4096
        · by_cases c2 : x + y > lenR a
          · by_cases eb : (chk b).2 = 0
            · by_cases hr0 : resE (a ++ b) = 0
              · exact parts_z37 a b x y ha hb hx hy he eb hr0 c1 c2
              · exact parts_r37 a b x y ha hb hx hy he eb hr0 c1 c2
            · exact parts_e37 a b x y ha hb hx hy he eb c1 c2
          · by_cases eb : (chk b).2 = 0
            · by_cases hr0 : resE (a ++ b) = 0
              · exact parts_zok a b x y ha hb hx hy he eb hr0 c1 c2
              · exact parts_rok a b x y ha hb hx hy he eb hr0 c1 c2
            · exact parts_eok a b x y ha hb hx hy he eb c1 c2
        · by_cases eb : (chk b).2 = 0
          · by_cases hr0 : resE (a ++ b) = 0
            · exact parts_z2 a b x y ha hb hx hy he eb hr0 c1
            · exact parts_r2 a b x y ha hb hx hy he eb hr0 c1
          · exact parts_e2 a b x y ha hb hx hy he eb c1
      · exact parts_bad a b x y ha hb hx hy he
    · (refine QC.drop ?_ rfl; refine AC.nz ?_; refine AC.of_codeJ Try.func5 Try.ntmps5 c5_ok r5_ok ?_; rw [c5_eq]; simp only [List.length_cons, List.length_nil, List.cons_append, List.nil_append, junks, Nat.reduceAdd, Nat.reduceSub])
      repeat' (first | (refine AW.sreg ?_) | (refine AW.reg ?_) | (refine AW.seqv ?_) | (refine AW.sdrawn ?_) | (refine AW.drawnv ?_) | (show WR _ _ _ (⟨_, _, none⟩ :: _) _ _; refine WR.x1 rfl rfl (by (try simp (disch := omega) only [go_sem, List.length_map]); first | done | with_reducible rfl) ?_) | (show AWL _ _ _ _ ((_, ⟨_, _, none⟩) :: _) _; refine WD.x1 rfl rfl (by (try simp (disch := omega) only [go_sem, List.length_map]); first | done | with_reducible rfl) ?_) | (refine WR.nil ?_; try dsimp only) | (refine WD.nil ?_; try dsimp only) | (show WR _ _ _ (⟨_, _, some _⟩ :: _) _ _; refine WR.xk rfl (by (try simp (disch := omega) only [go_sem, List.length_map]); first | done | with_reducible rfl) ?_) | (show AWL _ _ _ _ ((_, ⟨_, _, some _⟩) :: _) _; refine WD.xk rfl (by (try simp (disch := omega) only [go_sem, List.length_map]); first | done | with_reducible rfl) ?_) | (show WR _ _ _ (⟨_, .app _ _ _ _ _, _⟩ :: _) _ _; first | refine WR.app (by (try simp (disch := omega) only [go_sem, List.length_map]); first | done | with_reducible rfl) rfl (by (try simp (disch := omega) only [go_sem, List.length_map]); first | done | with_reducible rfl) (by (try simp (disch := omega) only [go_sem, List.length_map]); first | done | with_reducible rfl) (by (try simp only [go_sem, List.length_append, List.length_map, List.length_cons, List.length_nil]); first | done | omega) (by (try simp (disch := omega) only [go_sem, List.length_map]); first | done | with_reducible rfl) (by first | assumption | (simp; done) | (intro e he; simp at he; grind)) (by (try simp only [go_sem, List.length_append, List.length_map, List.length_cons, List.length_nil]); first | done | omega) (fun cap hcap => ?_) | refine WR.appNil (by (try simp (disch := omega) only [go_sem, List.length_map]); first | done | with_reducible rfl) rfl (by (try simp (disch := omega) only [go_sem, List.length_map]); first | done | with_reducible rfl) (by (try simp (disch := omega) only [go_sem, List.length_map]); first | done | with_reducible rfl) (by first | assumption | (simp; done) | (intro e he; simp at he; grind)) (by (try simp only [go_sem, List.length_append, List.length_map, List.length_cons, List.length_nil]); first | done | omega) (fun cap hcap => ?_)) | (show AWL _ _ _ _ ((_, ⟨_, .app _ _ _ _ _, _⟩) :: _) _; first | refine WD.app (by (try simp (disch := omega) only [go_sem, List.length_map]); first | done | with_reducible rfl) rfl (by (try simp (disch := omega) only [go_sem, List.length_map]); first | done | with_reducible rfl) (by (try simp (disch := omega) only [go_sem, List.length_map]); first | done | with_reducible rfl) (by (try simp only [go_sem, List.length_append, List.length_map, List.length_cons, List.length_nil]); first | done | omega) (by (try simp (disch := omega) only [go_sem, List.length_map]); first | done | with_reducible rfl) (by first | assumption | (simp; done) | (intro e he; simp at he; grind)) (by (try simp only [go_sem, List.length_append, List.length_map, List.length_cons, List.length_nil]); first | done | omega) (fun cap hcap => ?_) | refine WD.appNil (by (try simp (disch := omega) only [go_sem, List.length_map]); first | done | with_reducible rfl) rfl (by (try simp (disch := omega) only [go_sem, List.length_map]); first | done | with_reducible rfl) (by (try simp (disch := omega) only [go_sem, List.length_map]); first | done | with_reducible rfl) (by first | assumption | (simp; done) | (intro e he; simp at he; grind)) (by (try simp only [go_sem, List.length_append, List.length_map, List.length_cons, List.length_nil]); first | done | omega) (fun cap hcap => ?_)) | (show WR _ _ _ (⟨_, .call _ _, _⟩ :: _) _ _; first | refine' WR.cQ rfl (awake_q) (by (try simp (disch := omega) only [go_sem, List.length_map]); first | done | with_reducible rfl) ?_ ?_ ?_ ?_ | refine' WR.cQ rfl (few_q _) (by (try simp (disch := omega) only [go_sem, List.length_map]); first | done | with_reducible rfl) ?_ ?_ ?_ ?_) | (show AWL _ _ _ _ ((_, ⟨_, .call _ _, _⟩) :: _) _; first | refine' WD.cQ rfl (awake_q) (fun _ => (by (try simp (disch := omega) only [go_sem, List.length_map]); first | done | with_reducible rfl)) ?_ ?_ ?_ ?_ | refine' WD.cQ rfl (few_q _) (fun _ => (by (try simp (disch := omega) only [go_sem, List.length_map]); first | done | with_reducible rfl)) ?_ ?_ ?_ ?_) | (refine AW.skip ?_) | (refine AW.ret ?_) | (refine SeqQ.n ?_) | (refine SeqQ.r ?_) | (first | show _ = _ | show gOK _ _ _ | (intro _; show _ = _)); ((try simp (disch := omega) only [go_sem, List.length_map]); first | done | with_reducible rfl) | ((first | refine AW.cond (by (try simp (disch := omega) only [go_sem, List.length_map]); first | done | with_reducible rfl) (fun hc => ?_) (fun hc => ?_) | (refine WR.splitS rfl (by (try simp (disch := omega) only [go_sem, List.length_map]); first | done | with_reducible rfl) (by (try simp (disch := omega) only [go_sem, List.length_map]); first | done | with_reducible rfl) (by (try simp (disch := omega) only [go_sem, List.length_map]); first | done | with_reducible rfl) (fun hc => ?_) (fun hc => ?_); fail_if_success (with_reducible have hz : true = true := hc); fail_if_success (with_reducible have hz : false = true := hc)) | (refine WD.splitS rfl (by (try simp (disch := omega) only [go_sem, List.length_map]); first | done | with_reducible rfl) (by (try simp (disch := omega) only [go_sem, List.length_map]); first | done | with_reducible rfl) (by (try simp (disch := omega) only [go_sem, List.length_map]); first | done | with_reducible rfl) (fun hc => ?_) (fun hc => ?_); fail_if_success (with_reducible have hz : true = true := hc); fail_if_success (with_reducible have hz : false = true := hc))) <;> try simp only [go_sem] at hc <;> try first | exact absurd trivial hc | (exfalso; omega)))
      all_goals (refine Fin.ret (by first | exact Nat.zero_le _ | simp) rfl ?_; (try simp (disch := omega) only [go_sem]); first | done | with_reducible rfl | (simp []; done) | (simp []; grind) | rfl)
  · (refine QC.drop ?_ rfl; refine AC.nz ?_; refine AC.of_codeJ Try.func5 Try.ntmps5 c5_ok r5_ok ?_; rw [c5_eq]; simp only [List.length_cons, List.length_nil, List.cons_append, List.nil_append, junks, Nat.reduceAdd, Nat.reduceSub])
    repeat' (first | (refine AW.sreg ?_) | (refine AW.reg ?_) | (refine AW.seqv ?_) | (refine AW.sdrawn ?_) | (refine AW.drawnv ?_) | (show WR _ _ _ (⟨_, _, none⟩ :: _) _ _; refine WR.x1 rfl rfl (by (try simp (disch := omega) only [go_sem, List.length_map]); first | done | with_reducible rfl) ?_) | (show AWL _ _ _ _ ((_, ⟨_, _, none⟩) :: _) _; refine WD.x1 rfl rfl (by (try simp (disch := omega) only [go_sem, List.length_map]); first | done | with_reducible rfl) ?_) | (refine WR.nil ?_; try dsimp only) | (refine WD.nil ?_; try dsimp only) | (show WR _ _ _ (⟨_, _, some _⟩ :: _) _ _; refine WR.xk rfl (by (try simp (disch := omega) only [go_sem, List.length_map]); first | done | with_reducible rfl) ?_) | (show AWL _ _ _ _ ((_, ⟨_, _, some _⟩) :: _) _; refine WD.xk rfl (by (try simp (disch := omega) only [go_sem, List.length_map]); first | done | with_reducible rfl) ?_) | (show WR _ _ _ (⟨_, .app _ _ _ _ _, _⟩ :: _) _ _; first | refine WR.app (by (try simp (disch := omega) only [go_sem, List.length_map]); first | done | with_reducible rfl) rfl (by (try simp (disch := omega) only [go_sem, List.length_map]); first | done | with_reducible rfl) (by (try simp (disch := omega) only [go_sem, List.length_map]); first | done | with_reducible rfl) (by (try simp only [go_sem, List.length_append, List.length_map, List.length_cons, List.length_nil]); first | done | omega) (by (try simp (disch := omega) only [go_sem, List.length_map]); first | done | with_reducible rfl) (by first | assumption | (simp; done) | (intro e he; simp at he; grind)) (by (try simp only [go_sem, List.length_append, List.length_map, List.length_cons, List.length_nil]); first | done | omega) (fun cap hcap => ?_) | refine WR.appNil (by (try simp (disch := omega) only [go_sem, List.length_map]); first | done | with_reducible rfl) rfl (by (try simp (disch := omega) only [go_sem, List.length_map]); first | done | with_reducible rfl) (by (try simp (disch := omega) only [go_sem, List.length_map]); first | done | with_reducible rfl) (by first | assumption | (simp; done) | (intro e he; simp at he; grind)) (by (try simp only [go_sem, List.length_append, List.length_map, List.length_cons, List.length_nil]); first | done | omega) (fun cap hcap => ?_)) | (show AWL _ _ _ _ ((_, ⟨_, .app _ _ _ _ _, _⟩) :: _) _; first | refine WD.app (by (try simp (disch := omega) only [go_sem, List.length_map]); first | done | with_reducible rfl) rfl (by (try simp (disch := omega) only [go_sem, List.length_map]); first | done | with_reducible rfl) (by (try simp (disch := omega) only [go_sem, List.length_map]); first | done | with_reducible rfl) (by (try simp only [go_sem, List.length_append, List.length_map, List.length_cons, List.length_nil]); first | done | omega) (by (try simp (disch := omega) only [go_sem, List.length_map]); first | done | with_reducible rfl) (by first | assumption | (simp; done) | (intro e he; simp at he; grind)) (by (try simp only [go_sem, List.length_append, List.length_map, List.length_cons, List.length_nil]); first | done | omega) (fun cap hcap => ?_) | refine WD.appNil (by (try simp (disch := omega) only [go_sem, List.length_map]); first | done | with_reducible rfl) rfl (by (try simp (disch := omega) only [go_sem, List.length_map]); first | done | with_reducible rfl) (by (try simp (disch := omega) only [go_sem, List.length_map]); first | done | with_reducible rfl) (by first | assumption | (simp; done) | (intro e he; simp at he; grind)) (by (try simp only [go_sem, List.length_append, List.length_map, List.length_cons, List.length_nil]); first | done | omega) (fun cap hcap => ?_)) | (show WR _ _ _ (⟨_, .call _ _, _⟩ :: _) _ _; first | refine' WR.cQ rfl (awake_q) (by (try simp (disch := omega) only [go_sem, List.length_map]); first | done | with_reducible rfl) ?_ ?_ ?_ ?_ | refine' WR.cQ rfl (few_q _) (by (try simp (disch := omega) only [go_sem, List.length_map]); first | done | with_reducible rfl) ?_ ?_ ?_ ?_) | (show AWL _ _ _ _ ((_, ⟨_, .call _ _, _⟩) :: _) _; first | refine' WD.cQ rfl (awake_q) (fun _ => (by (try simp (disch := omega) only [go_sem, List.length_map]); first | done | with_reducible rfl)) ?_ ?_ ?_ ?_ | refine' WD.cQ rfl (few_q _) (fun _ => (by (try simp (disch := omega) only [go_sem, List.length_map]); first | done | with_reducible rfl)) ?_ ?_ ?_ ?_) | (refine AW.skip ?_) | (refine AW.ret ?_) | (refine SeqQ.n ?_) | (refine SeqQ.r ?_) | (first | show _ = _ | show gOK _ _ _ | (intro _; show _ = _)); ((try simp (disch := omega) only [go_sem, List.length_map]); first | done | with_reducible rfl) | ((first | refine AW.cond (by (try simp (disch := omega) only [go_sem, List.length_map]); first | done | with_reducible rfl) (fun hc => ?_) (fun hc => ?_) | (refine WR.splitS rfl (by (try simp (disch := omega) only [go_sem, List.length_map]); first | done | with_reducible rfl) (by (try simp (disch := omega) only [go_sem, List.length_map]); first | done | with_reducible rfl) (by (try simp (disch := omega) only [go_sem, List.length_map]); first | done | with_reducible rfl) (fun hc => ?_) (fun hc => ?_); fail_if_success (with_reducible have hz : true = true := hc); fail_if_success (with_reducible have hz : false = true := hc)) | (refine WD.splitS rfl (by (try simp (disch := omega) only [go_sem, List.length_map]); first | done | with_reducible rfl) (by (try simp (disch := omega) only [go_sem, List.length_map]); first | done | with_reducible rfl) (by (try simp (disch := omega) only [go_sem, List.length_map]); first | done | with_reducible rfl) (fun hc => ?_) (fun hc => ?_); fail_if_success (with_reducible have hz : true = true := hc); fail_if_success (with_reducible have hz : false = true := hc))) <;> try simp only [go_sem] at hc <;> try first | exact absurd trivial hc | (exfalso; omega)))
    all_goals (refine Fin.ret (by first | exact Nat.zero_le _ | simp) rfl ?_; (try simp (disch := omega) only [go_sem]); first | done | with_reducible rfl | (simp []; done) | (simp []; grind) | rfl)
open Go.ChangeShapes Go.WideShapes Go.ChangeAt Go.RowKit
theorem Try.own : ownKnob Try.prog.godebug = none := by kernel_rfl
theorem Try.laidOut : laidOutB Try.prog = true := by kernel_rfl
theorem glob0 (F : Fz) : GlobOK F G0 := fun g cs h => by cases h
def In64 (i : Int) : Prop := -9223372036854775808 ≤ i ∧ i ≤ 9223372036854775807
theorem cells3 : Try.prog.cellsOf 3 = 1 := by kernel_rfl
theorem cells64 : Try.prog.cellsOf 64 = 2 := by kernel_rfl
set_option maxRecDepth 100000 in
theorem okA_runs {av : AV} (h : okA Try.prog 6 22 av) : ∃ l : List Run, av = runsV l ∧ ∀ r ∈ l, In64 r.s ∧ In64 r.n := by
  obtain ⟨es, rfl, _, he⟩ := okA_slice Try.underlying22 h
  have key : ∀ es : List (List DC), (∀ d ∈ es, okT Try.prog 5 64 d) → ∃ l : List Run, es = l.map Run.e ∧ ∀ r ∈ l, In64 r.s ∧ In64 r.n := by
    intro es
    induction es with
    | nil => intro _; exact ⟨[], rfl, by simp⟩
    | cons d es ih =>
      intro h
      obtain ⟨l, rfl, hl⟩ := ih (fun d hd => h d (List.mem_cons_of_mem _ hd))
      obtain ⟨a, b, rfl, ha, hb⟩ := okT_two Try.underlying64 Try.underlying3 Try.underlying3 rfl rfl cells3 cells3 cells64 (h d List.mem_cons_self)
      exact ⟨⟨a, b⟩ :: l, rfl, fun r hr => by
        rcases List.mem_cons.1 hr with rfl | hr
        · exact ⟨ha, hb⟩
        · exact hl r hr⟩
  obtain ⟨l, rfl, hl⟩ := key es he
  exact ⟨l, rfl, hl⟩
theorem cells45 : Try.prog.cellsOf 45 = 2 := by kernel_rfl
set_option maxRecDepth 100000 in
theorem okA_pair {av : AV} (h : okA Try.prog 6 45 av) : ∃ x y : Int, av = .agg [.dc (ci x), .dc (ci y)] ∧ In64 x ∧ In64 y := by
  obtain ⟨ds, rfl, h2⟩ := okA_many (by kernel_rfl) h
  rw [okT, Try.underlying45] at h2
  obtain ⟨hl, hf⟩ := h2
  rw [cells45] at hl
  obtain ⟨a, ha, ha2⟩ := okT_int1 Try.underlying3 (hf 0 (by decide))
  obtain ⟨b, hb, hb2⟩ := okT_int1 Try.underlying3 (hf 1 (by decide))
  match ds, hl with
  | [x, y], _ =>
    rw [cells3] at ha hb
    simp at ha hb
    exact ⟨a, b, by rw [ha, hb]; rfl, i64_bounds ha2, i64_bounds hb2⟩
set_option maxRecDepth 100000 in
theorem runsParts_lifted (os : Os) (started : os.Started) (H : Type) (enc : TypeId × Value → H) :
    ReturnsInHanded {} Try.checked os 5 .any (Rows.runsPartsSpec.pre6 enc Try.prog Try.f5 Rows.runsPartsRow.domain false) (Rows.runsPartsSpec.post enc Try.prog Try.f5 false true false false) := by
  refine returnsInHanded_of_change (C := Try.checked) Try.own started (by kernel_rfl) Try.func5
    (ChangeSpec.witness6 (enc := enc) (C := Try.checked) false ⟨#[], #[.slice none 0 0, .slice none 0 0, .agg #[.int .i64 0, .int .i64 0]], []⟩ 8 (by kernel_rfl) (by kernel_rfl) (by kernel_rfl) (by kernel_rfl)) ?_
  intro W base args ds gs before hval0 hW hcnd _
  have hval : ∀ (j : Nat) t v, Try.f5.params[j]? = some t → args[j]? = some v → Value.okWide Try.prog W .any base t v := hval0
  have hW' := hW
  obtain ⟨p, q, hA0, hV, rfl, hfz, hnd⟩ := hW
  have hA : DataW.TrodAll enc Try.prog W 0 (fun _ => true) true Try.f5.params.toList args.toList ds p := hA0
  obtain ⟨rfl, rfl⟩ := trodVars_none hV
  obtain ⟨avs, h1, h2, h3, h4⟩ := args_data (m := 6) hA (fun j t v a b => hval j t v (by simpa using a) (by simpa using b)) (by
    have : Try.f5.params.toList.all (datT Try.prog 6) = true := by kernel_rfl
    exact fun t ht => List.all_eq_true.1 this t ht)
  rw [Try.params5] at h3
  match avs, h3 with
  | [a0, a1, a2], h3 =>
    obtain ⟨k0, k1, k2, _⟩ := h3
    obtain ⟨l, rfl, _⟩ := okA_runs k0
    obtain ⟨r, rfl, _⟩ := okA_runs k1
    obtain ⟨x, y, rfl, hx, hy⟩ := okA_pair k2
    have hq := RunsParts_q l r x y hx hy
    refine (law_calls hq (glob0 _) ⟨by simpa using h1, fun i av v a b => h2 i av v a (by simpa using b)⟩).mono fun e W' ⟨he, hb⟩ => ?_
    subst he
    rw [Try.params5] at h4
    match ds, h4 with
    | [d0, d1, d2], _ =>
      exact ⟨_, rfl, post_true (tb := 4) Try.laidOut (by
        have : Try.f5.params.toList.all (fun t => Try.prog.readableRec t && decide (t < Try.prog.types.size)) = true := by kernel_rfl
        intro t ht
        have := List.all_eq_true.1 this t ht
        rw [Bool.and_eq_true, decide_eq_true_eq] at this
        exact this) rfl rfl Try.underlying4 hW' rfl hb⟩
theorem runsParts_holds : Rows.RunsPartsSaid :=
  OpenClaim.holds_of_wide 5 Try.f5 rfl rfl rfl rfl rfl rfl rfl ⟨rfl, rfl, rfl, rfl, rfl⟩ rfl rfl rfl rfl rfl (by kernel_rfl) Try.func5 (by kernel_rfl)
    (of_decide_eq_true (by kernel_rfl)) (by unfold Func.isWrapper; first | (rw [if_pos (by decide +kernel)]; kernel_rfl) | (rw [if_neg (by decide +kernel)]; exact ⟨rfl, rfl⟩))
    (fun os started H enc _ => runsParts_lifted os started H enc)
end Go.Proofs.Ytginjcpblgpcoaa
