/- RunsHalves returns true for every input, and each argument reads afterwards as it read before. Conditions: none. -/
import Derived.Test.YtginjcpblgpcoaaVx
import Derived.Test.YtginjcpblgpcoaaVy
import Derived.Test.YtginjcpblgpcoaaMf
import Derived.Test.YtginjcpblgpcoaaRows
import Derived.ProofKit
namespace Go.Proofs.Ytginjcpblgpcoaa
set_option linter.unusedSimpArgs false
set_option linter.unusedVariables false
open Go.ChangeShapes Go.WideShapes Go.ChangeAt Go.RowKit
theorem baseD_ok : CallOK Try.prog G0 baseD := by
  intro f args hp av o' h hp0 hh
  unfold baseD at h
  split at h
  · rename_i hf
    subst hf
    unfold awK at h
    split at h
    · injection h with h
      injection h with h1 h2
      subst h1; subst h2
      have : hp0 = [] := by simpa using hh
      subst this
      exact ⟨by kernel_rfl, awake_q.gh (fun a o ⟨h1, h2⟩ _ => ⟨a, o, Gh.refl, Nat.zero_le _, h1, by rw [h2]; rfl⟩)⟩
    · cases h
  · exact cloneD_ok f args hp av o' h hp0 hh
theorem qcD {f : FuncId} {args : List AV} {r : AV} (h : EV G0 (Tb baseD) f args [] = some (r, [])) : QC Try.prog G0 f args r := EV_qc (Tb_ok baseD) baseD_ok h
theorem Try.own : ownKnob Try.prog.godebug = none := by kernel_rfl
theorem Try.laidOut : laidOutB Try.prog = true := by kernel_rfl
theorem glob0 (F : Fz) : GlobOK F G0 := fun g cs h => by cases h
def In64 (i : Int) : Prop := -9223372036854775808 ≤ i ∧ i ≤ 9223372036854775807
theorem cells3 : Try.prog.cellsOf 3 = 1 := by kernel_rfl
theorem cells64 : Try.prog.cellsOf 64 = 2 := by kernel_rfl
set_option maxRecDepth 100000 in
theorem okA_runs {av : AV} (h : okA Try.prog 6 22 av) : ∃ l : List Run, av = runsV l ∧ ∀ r ∈ l, In64 r.s ∧ In64 r.n := by
  obtain ⟨es, rfl, _, he⟩ := okA_slice Try.underlying22 h
  have key : ∀ es : List (List DC), (∀ d ∈ es, okT Try.prog 5 64 d) → ∃ l : List Run, es = l.map Run.e ∧ ∀ r ∈ l, In64 r.s ∧ In64 r.n := by
    intro es
    induction es with
    | nil => intro _; exact ⟨[], rfl, by simp⟩
    | cons d es ih =>
      intro h
      obtain ⟨l, rfl, hl⟩ := ih (fun d hd => h d (List.mem_cons_of_mem _ hd))
      obtain ⟨a, b, rfl, ha, hb⟩ := okT_two Try.underlying64 Try.underlying3 Try.underlying3 rfl rfl cells3 cells3 cells64 (h d List.mem_cons_self)
      exact ⟨⟨a, b⟩ :: l, rfl, fun r hr => by
        rcases List.mem_cons.1 hr with rfl | hr
        · exact ⟨ha, hb⟩
        · exact hl r hr⟩
  obtain ⟨l, rfl, hl⟩ := key es he
  exact ⟨l, rfl, hl⟩
set_option maxRecDepth 100000 in
theorem runsHalves_lifted (os : Os) (started : os.Started) (H : Type) (enc : TypeId × Value → H) :
    ReturnsInHanded {} Try.checked os 8 .any (Rows.runsHalvesSpec.pre6 enc Try.prog Try.f8 Rows.runsHalvesRow.domain false) (Rows.runsHalvesSpec.post enc Try.prog Try.f8 false true false false) := by
  refine returnsInHanded_of_change (C := Try.checked) Try.own started (by kernel_rfl) Try.func8
    (ChangeSpec.witness6 (enc := enc) (C := Try.checked) false ⟨#[], #[.slice none 0 0, .slice none 0 0, .int .i64 0], []⟩ 8 (by kernel_rfl) (by kernel_rfl) (by kernel_rfl) (by kernel_rfl)) ?_
  intro W base args ds gs before hval0 hW hcnd _
  have hval : ∀ (j : Nat) t v, Try.f8.params[j]? = some t → args[j]? = some v → Value.okWide Try.prog W .any base t v := hval0
  have hW' := hW
  obtain ⟨p, q, hA0, hV, rfl, hfz, hnd⟩ := hW
  have hA : DataW.TrodAll enc Try.prog W 0 (fun _ => true) true Try.f8.params.toList args.toList ds p := hA0
  obtain ⟨rfl, rfl⟩ := trodVars_none hV
  obtain ⟨avs, h1, h2, h3, h4⟩ := args_data (m := 6) hA (fun j t v a b => hval j t v (by simpa using a) (by simpa using b)) (by
    have : Try.f8.params.toList.all (datT Try.prog 6) = true := by kernel_rfl
    exact fun t ht => List.all_eq_true.1 this t ht)
  rw [Try.params8] at h3
  match avs, h3 with
  | [a0, a1, a2], h3 =>
    obtain ⟨k0, k1, k2, _⟩ := h3
    obtain ⟨l, rfl, _⟩ := okA_runs k0
    obtain ⟨b, rfl, _⟩ := okA_runs k1
    obtain ⟨i, rfl, hi⟩ := okA_int Try.underlying3 k2
    have hq := qcD (RunsHalves_v l b i)
    refine (law_calls hq (glob0 _) ⟨by simpa using h1, fun i av v a b => h2 i av v a (by simpa using b)⟩).mono fun e W' ⟨he, hb⟩ => ?_
    subst he
    rw [Try.params8] at h4
    match ds, h4 with
    | [d0, d1, d2], _ =>
      exact ⟨_, rfl, post_true (tb := 4) Try.laidOut (by
        have : Try.f8.params.toList.all (fun t => Try.prog.readableRec t && decide (t < Try.prog.types.size)) = true := by kernel_rfl
        intro t ht
        have := List.all_eq_true.1 this t ht
        rw [Bool.and_eq_true, decide_eq_true_eq] at this
        exact this) rfl rfl Try.underlying4 hW' rfl hb⟩
theorem runsHalves_holds : Rows.RunsHalvesSaid :=
  OpenClaim.holds_of_wide 8 Try.f8 rfl rfl rfl rfl rfl rfl rfl ⟨rfl, rfl, rfl, rfl, rfl⟩ rfl rfl rfl rfl rfl (by kernel_rfl) Try.func8 (by kernel_rfl)
    (of_decide_eq_true (by kernel_rfl)) (by unfold Func.isWrapper; first | (rw [if_pos (by decide +kernel)]; kernel_rfl) | (rw [if_neg (by decide +kernel)]; exact ⟨rfl, rfl⟩))
    (fun os started H enc _ => runsHalves_lifted os started H enc)
end Go.Proofs.Ytginjcpblgpcoaa
