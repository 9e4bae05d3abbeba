/- RunsBytes returns true for every input, and each argument reads afterwards as it read before. Conditions: none. -/
import Derived.Test.YtginjcpblgpcoaaVx
import Derived.Test.YtginjcpblgpcoaaVs
import Derived.Test.YtginjcpblgpcoaaMf
import Derived.Test.YtginjcpblgpcoaaRows
import Derived.ProofKit
namespace Go.Proofs.Ytginjcpblgpcoaa
section
set_option maxRecDepth 4000
set_option linter.unusedSimpArgs false
set_option linter.unusedVariables false
variable {G : Glob} {B : CallT}
theorem decZ_len (z : DS) : (decZ z).1.length ≤ z.out.length ∧ ((decZ z).2 ≠ 0 → (decZ z).1 = []) := by
  unfold decZ
  split
  · simp
  · split
    · simp
    · simp
theorem decV_len (s : List Int) (hB : Byts s) (hs : (s.length : Int) ≤ 420) : (decV s).1.length ≤ 1000000 ∧ ((decV s).2 ≠ 0 → (decV s).1 = []) := by
  unfold decV
  split
  · simp
  · obtain ⟨e1, e2, e3⟩ := dEnd_spec s hB
    obtain ⟨_, g2, _⟩ := dK_ok s hB _ e3
    obtain ⟨h1, h2⟩ := decZ_len (dK s (dEnd s))
    exact ⟨by omega, h2⟩
theorem same_dec (s : List Int) (hB : Byts s) (hs : (s.length : Int) ≤ 420) : EV G (Tb B) 19 [runsV (decV s).1, vi (decV s).2, runsV (decV s).1, vi (decV s).2] [] = some (vb true, []) := by
  obtain ⟨h1, h2⟩ := decV_len s hB hs
  rw [same_v _ _ _ _ h1]
  have : (decV s).2 = (decV s).2 ∧ ((decV s).2 ≠ 0 ∧ (decV s).1 = [] ∨ (decV s).2 = 0 ∧ (decV s).1 = (decV s).1) := by
    refine ⟨rfl, ?_⟩
    by_cases h : (decV s).2 = 0
    · exact .inr ⟨h, rfl⟩
    · exact .inl ⟨h, h2 h⟩
  rw [decide_eq_true this]
theorem RunsBytes_v (l : List Run) (s : List Int) (hB : Byts s) : EV G (Tb baseC) 6 [runsV l, sv s] [] = some (vb true, []) := by
  refine EV_run rfl ?_
  by_cases hl : (l.length : Int) ≤ 80
  · by_cases hs : (s.length : Int) ≤ 420
    · have hd := decode_v (G := G) (B := baseC) s hB
      have hr := decodeR_v (G := G) (B := baseC) s hB
      have hm := same_dec (G := G) (B := baseC) s hB hs
      generalize decV s = D at *
      obtain ⟨R, e⟩ := D
      simp only at hd hr hm
      have he := encode_v (G := G) (B := baseC) l
      unfold encV at he
      rw [errs1] at he
      by_cases c : (chk l).2 = 0
      · have hf := encodeR_v (G := G) (B := baseC) l c
        rw [if_neg (by simpa using c)] at he
        simp (disch := first | omega | (simp only [List.length_append, List.length_cons, List.length_nil, List.length_map, sgK_len]; omega)) only [go_sem, Nat.reduceAdd, Nat.reduceSub, Nat.reduceMul, Nat.reduceLeDiff, Nat.reduceEqDiff, h6c, awake_v, few_v, copyRuns_v, he, hd, hr, hm, err_r, c, hf, str_nil]
      · rw [if_pos c] at he
        simp (disch := first | omega | (simp only [List.length_append, List.length_cons, List.length_nil, List.length_map, sgK_len]; omega)) only [go_sem, Nat.reduceAdd, Nat.reduceSub, Nat.reduceMul, Nat.reduceLeDiff, Nat.reduceEqDiff, h6c, awake_v, few_v, copyRuns_v, he, hd, hr, hm, err_r, c, str_nil]
    · simp (disch := first | omega | (simp only [List.length_append, List.length_cons, List.length_nil, List.length_map, sgK_len]; omega)) only [go_sem, Nat.reduceAdd, Nat.reduceSub, Nat.reduceMul, Nat.reduceLeDiff, Nat.reduceEqDiff, h6c, awake_v, few_v]
  · simp (disch := first | omega | (simp only [List.length_append, List.length_cons, List.length_nil, List.length_map, sgK_len]; omega)) only [go_sem, Nat.reduceAdd, Nat.reduceSub, Nat.reduceMul, Nat.reduceLeDiff, Nat.reduceEqDiff, h6c, awake_v, few_v]
end
open Go.ChangeShapes Go.WideShapes Go.ChangeAt Go.RowKit
theorem Try.own : ownKnob Try.prog.godebug = none := by kernel_rfl
theorem Try.laidOut : laidOutB Try.prog = true := by kernel_rfl
theorem glob0 (F : Fz) : GlobOK F G0 := fun g cs h => by cases h
def In64 (i : Int) : Prop := -9223372036854775808 ≤ i ∧ i ≤ 9223372036854775807
theorem cells3 : Try.prog.cellsOf 3 = 1 := by kernel_rfl
theorem cells64 : Try.prog.cellsOf 64 = 2 := by kernel_rfl
set_option maxRecDepth 100000 in
theorem okA_runs {av : AV} (h : okA Try.prog 6 22 av) : ∃ l : List Run, av = runsV l ∧ ∀ r ∈ l, In64 r.s ∧ In64 r.n := by
  obtain ⟨es, rfl, _, he⟩ := okA_slice Try.underlying22 h
  have key : ∀ es : List (List DC), (∀ d ∈ es, okT Try.prog 5 64 d) → ∃ l : List Run, es = l.map Run.e ∧ ∀ r ∈ l, In64 r.s ∧ In64 r.n := by
    intro es
    induction es with
    | nil => intro _; exact ⟨[], rfl, by simp⟩
    | cons d es ih =>
      intro h
      obtain ⟨l, rfl, hl⟩ := ih (fun d hd => h d (List.mem_cons_of_mem _ hd))
      obtain ⟨a, b, rfl, ha, hb⟩ := okT_two Try.underlying64 Try.underlying3 Try.underlying3 rfl rfl cells3 cells3 cells64 (h d List.mem_cons_self)
      exact ⟨⟨a, b⟩ :: l, rfl, fun r hr => by
        rcases List.mem_cons.1 hr with rfl | hr
        · exact ⟨ha, hb⟩
        · exact hl r hr⟩
  obtain ⟨l, rfl, hl⟩ := key es he
  exact ⟨l, rfl, hl⟩
set_option maxRecDepth 100000 in
theorem runsBytes_lifted (os : Os) (started : os.Started) (H : Type) (enc : TypeId × Value → H) :
    ReturnsInHanded {} Try.checked os 6 .any (Rows.runsBytesSpec.pre6 enc Try.prog Try.f6 Rows.runsBytesRow.domain false) (Rows.runsBytesSpec.post enc Try.prog Try.f6 false true false false) := by
  refine returnsInHanded_of_change (C := Try.checked) Try.own started (by kernel_rfl) Try.func6
    (ChangeSpec.witness6 (enc := enc) (C := Try.checked) false ⟨#[], #[.slice none 0 0, .string ⟨#[]⟩], []⟩ 8 (by kernel_rfl) (by kernel_rfl) (by kernel_rfl) (by kernel_rfl)) ?_
  intro W base args ds gs before hval0 hW hcnd _
  have hval : ∀ (j : Nat) t v, Try.f6.params[j]? = some t → args[j]? = some v → Value.okWide Try.prog W .any base t v := hval0
  have hW' := hW
  obtain ⟨p, q, hA0, hV, rfl, hfz, hnd⟩ := hW
  have hA : DataW.TrodAll enc Try.prog W 0 (fun _ => true) true Try.f6.params.toList args.toList ds p := hA0
  obtain ⟨rfl, rfl⟩ := trodVars_none hV
  obtain ⟨avs, h1, h2, h3, h4⟩ := args_data (m := 6) hA (fun j t v a b => hval j t v (by simpa using a) (by simpa using b)) (by
    have : Try.f6.params.toList.all (datT Try.prog 6) = true := by kernel_rfl
    exact fun t ht => List.all_eq_true.1 this t ht)
  rw [Try.params6] at h3
  match avs, h3 with
  | [a0, a1], h3 =>
    obtain ⟨k0, k1, _⟩ := h3
    obtain ⟨l, rfl, _⟩ := okA_runs k0
    obtain ⟨s, rfl, _⟩ := okA_string Try.underlying9 k1
    obtain ⟨s, hB, rfl⟩ := str_all s
    have hq := qcC (RunsBytes_v l s hB)
    refine (law_calls hq (glob0 _) ⟨by simpa using h1, fun i av v a b => h2 i av v a (by simpa using b)⟩).mono fun e W' ⟨he, hb⟩ => ?_
    subst he
    rw [Try.params6] at h4
    match ds, h4 with
    | [d0, d1], _ =>
      exact ⟨_, rfl, post_true (tb := 4) Try.laidOut (by
        have : Try.f6.params.toList.all (fun t => Try.prog.readableRec t && decide (t < Try.prog.types.size)) = true := by kernel_rfl
        intro t ht
        have := List.all_eq_true.1 this t ht
        rw [Bool.and_eq_true, decide_eq_true_eq] at this
        exact this) rfl rfl Try.underlying4 hW' rfl hb⟩
theorem runsBytes_holds : Rows.RunsBytesSaid :=
  OpenClaim.holds_of_wide 6 Try.f6 rfl rfl rfl rfl rfl rfl rfl ⟨rfl, rfl, rfl, rfl, rfl⟩ rfl rfl rfl rfl rfl (by kernel_rfl) Try.func6 (by kernel_rfl)
    (of_decide_eq_true (by kernel_rfl)) (by unfold Func.isWrapper; first | (rw [if_pos (by decide +kernel)]; kernel_rfl) | (rw [if_neg (by decide +kernel)]; exact ⟨rfl, rfl⟩))
    (fun os started H enc _ => runsBytes_lifted os started H enc)
end Go.Proofs.Ytginjcpblgpcoaa
