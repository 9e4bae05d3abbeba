/- OplocksStates returns true for every input, and each argument reads afterwards as it read before; the variables that the row lists are laid by the program's text. Conditions: none. -/
import Derived.Test.YtinageiefahjfaaGreatDoorSj
import Derived.Test.YtinageiefahjfaaGreatDoorSq
namespace Go.Proofs.YtinageiefahjfaaGreatDoor
set_option linter.unusedSimpArgs false
set_option linter.unusedVariables false
set_option maxRecDepth 4000
variable {G : Glob} {bb : Bool}
open Go.ChangeShapes Go.WideShapes Go.ChangeAt Go.RowKit
set_option maxRecDepth 100000 in
theorem oplocksStates_lifted (os : Os) (started : os.Started) (H : Type) (enc : TypeId × Value → H) :
    ReturnsInHanded {} Tryz.checked os 7 .any (fun w args => (Rows.oplocksStatesSpec.pre enc Tryz.prog Tryz.f7 [] false w args ∧ laidMetH Tryz.prog Rows.oplocksStatesRow.laid w) ∧ sizedMet enc Tryz.prog Tryz.f7 (OpenSpec.ofChange Rows.oplocksStatesSpec) false w args) (Rows.oplocksStatesSpec.post enc Tryz.prog Tryz.f7 false true false false) := by
  refine returnsInHanded_of_change_and (C := Tryz.checked) (X := fun w _ => laidMetH Tryz.prog Rows.oplocksStatesRow.laid w) (fun _ _ _ hh h => h.of_heap hh) Tryz.own started (by kernel_rfl) Tryz.func7
    (ChangeSpec.witness_shaped (enc := enc) (C := Tryz.checked) (os := os) (X := fun w _ => laidMetH Tryz.prog Rows.oplocksStatesRow.laid w) false (doorW os) #[nilVal, .int .i64 0] 8 rfl (World.shaped_of_RefB (by kernel_rfl) (by kernel_rfl)) (by kernel_rfl) (by kernel_rfl) (by kernel_rfl) (door_met os _)) ?_
  intro W base args ds gs before hval0 hW _ _ hL _
  have hval : ∀ (j : Nat) t v, Tryz.f7.params[j]? = some t → args[j]? = some v → Value.okWide Tryz.prog W .any base t v := hval0
  have hW' := hW
  obtain ⟨p, q, hA0, hV, rfl, hfz, hnd⟩ := hW
  have hA : DataW.TrodAll enc Tryz.prog W 0 (fun _ => true) true Tryz.f7.params.toList args.toList ds p := hA0
  obtain ⟨rfl, rfl⟩ := trodVars_none hV
  obtain ⟨avs, h1, h2, h3, h4⟩ := args_data (m := 7) hA (fun j t v a b => hval j t v (by simpa using a) (by simpa using b)) (by
    have : Tryz.f7.params.toList.all (datT Tryz.prog 7) = true := by kernel_rfl
    exact fun t ht => List.all_eq_true.1 this t ht)
  rw [Tryz.params7] at h3
  match avs, h3 with
  | [b0, b1], h3 =>
    obtain ⟨k0, k1, _⟩ := h3
    obtain ⟨a0, c0, rfl⟩ := okA_file k0
    obtain ⟨a1, rfl, g1⟩ := okA_int Tryz.underlying3 k1
    have hq := qcT (states_v (G := G26) rfl a0 c0 a1)
    refine (law_calls hq (glob26 hL) ⟨by simpa using h1, fun i av v a b => h2 i av v a (by simpa using b)⟩).mono fun e W' ⟨he, hb⟩ => ?_
    subst he
    rw [Tryz.params7] at h4
    match ds, h4 with
    | [d0, d1], _ =>
      exact ⟨_, rfl, post_true (tb := 4) Tryz.laidOut (by
        have : Tryz.f7.params.toList.all (fun t => Tryz.prog.readableRec t && decide (t < Tryz.prog.types.size)) = true := by kernel_rfl
        intro t ht
        have := List.all_eq_true.1 this t ht
        rw [Bool.and_eq_true, decide_eq_true_eq] at this
        exact this) rfl rfl Tryz.underlying4 hW' rfl hb⟩
theorem oplocksStates_said : Rows.OplocksStatesSaid :=
  OpenClaim.holds_of_wide 7 Tryz.f7 rfl rfl rfl rfl rfl rfl rfl ⟨rfl, rfl, rfl, rfl, rfl⟩ rfl rfl rfl rfl rfl (by kernel_rfl) Tryz.func7 (by kernel_rfl)
    (of_decide_eq_true (by kernel_rfl)) (by unfold Func.isWrapper; first | (rw [if_pos (by decide +kernel)]; kernel_rfl) | (rw [if_neg (by decide +kernel)]; exact ⟨rfl, rfl⟩))
    (fun os started H enc _ => oplocksStates_lifted os started H enc)
theorem oplocksStates_plain (f : FuncId) (fn : Func) (hf : Tryz.pinned.checked.prog.funcNamed "depository/depositorylaw26.OplocksStates" = some f) (hfn : Tryz.pinned.checked.prog.funcs[f]? = some fn) :
    false = Tryz.pinned.checked.prog.looks [] ∧ ∀ (j : Nat) t, fn.params[j]? = some t → Tryz.pinned.checked.prog.wantsStandIn t = false := by
  obtain rfl : f = 7 := Option.some.inj ((show Tryz.prog.funcNamed "depository/depositorylaw26.OplocksStates" = some 7 by kernel_rfl).symm.trans hf) |>.symm
  obtain rfl : fn = Tryz.f7 := (Option.some.inj (Tryz.func7.symm.trans hfn)).symm
  refine ⟨by kernel_rfl, fun j t ht => ?_⟩
  have hall : Tryz.f7.params.toList.all (fun t => !Tryz.prog.wantsStandIn t) = true := by kernel_rfl
  have := List.all_eq_true.1 hall t (by simpa using Array.mem_of_getElem? ht)
  have e : Tryz.prog.wantsStandIn t = false := by simpa using this
  exact e
theorem oplocksStates_holds : Rows.OplocksStatesCardSaid :=
  Claim7.holds_tied_plain_at .later [] _ _ _ _ oplocksStates_said (fun _ h => by cases h) (by kernel_rfl) (fun _ h => by cases h) oplocksStates_row_tie rfl ⟨rfl, rfl⟩ (by kernel_rfl) rfl oplocksStates_plain (by kernel_rfl)
end Go.Proofs.YtinageiefahjfaaGreatDoor
