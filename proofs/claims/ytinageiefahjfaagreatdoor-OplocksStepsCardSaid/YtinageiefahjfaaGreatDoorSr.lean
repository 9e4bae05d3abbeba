/- OplocksSteps returns true for every input, and each argument reads afterwards as it read before; the variables that the row lists are laid by the program's text. Conditions: none. -/
import Derived.Test.YtinageiefahjfaaGreatDoorMf
import Derived.Test.YtinageiefahjfaaGreatDoorCards
import Derived.Test.YtinageiefahjfaaGreatDoorTie
import Derived.ProofKit
import Derived.MakeChecks
import Derived.Stop.LaidErr
import Derived.Deep.DeepHandedRow
import Derived.Lib.LaidTab
import Derived.LaidMore
import Derived.LaidHandle
import Derived.LaidLaws
import Derived.Test.YtinageiefahjfaaGreatDoorSi
namespace Go.Proofs.YtinageiefahjfaaGreatDoor
section
set_option maxRecDepth 4000
set_option linter.unusedSimpArgs false
set_option linter.unusedVariables false
variable {G : Glob} {bb : Bool}
open Go.ChangeShapes Go.WideShapes Go.ChangeAt Go.RowKit
theorem Tryz.own : ownKnob Tryz.prog.godebug = none := by kernel_rfl
theorem Tryz.laidOut : laidOutB Tryz.prog = true := by kernel_rfl
theorem Tryz.g0 : Tryz.prog.globalNamed "depository/oplocks.allows" = some 0 := by kernel_rfl
theorem cells3 : Tryz.prog.cellsOf 3 = 1 := by kernel_rfl
theorem cells22 : Tryz.prog.cellsOf 22 = 1 := by kernel_rfl
theorem cells23 : Tryz.prog.cellsOf 23 = 1 := by kernel_rfl
theorem cells25 : Tryz.prog.cellsOf 25 = 2 := by kernel_rfl
theorem cells79 : Tryz.prog.cellsOf 79 = 3 := by kernel_rfl
theorem cells119 : Tryz.prog.cellsOf 119 = 2 := by kernel_rfl
theorem okT_i1 {m : Nat} {x : DC} (h : okT Tryz.prog (m + 1) 3 [x]) : ∃ i : Int, x = ci i := by
  obtain ⟨i, h1, h2⟩ := okT_int1 Tryz.underlying3 h
  injection h1 with h1 _
  exact ⟨i, h1⟩
theorem okT_gr {m : Nat} {ds : List DC} (h : okT Tryz.prog (m + 2) 79 ds) : ∃ g : Gr, ds = g.e := by
  rw [okT, Tryz.underlying79] at h
  obtain ⟨hl, hf⟩ := h
  rw [cells79] at hl
  match ds, hl with
  | [x0, x1, x2], _ =>
    have h0 : okT Tryz.prog (m + 1) 3 [x0] := by
      have h : okT Tryz.prog (m + 1) 3 (([x0, x1, x2].drop 0).take (Tryz.prog.cellsOf 3)) := hf 0 _ rfl
      rw [cells3] at h
      exact h
    have h1 : okT Tryz.prog (m + 1) 3 [x1] := by
      have h : okT Tryz.prog (m + 1) 3 (([x0, x1, x2].drop 1).take (Tryz.prog.cellsOf 3)) := hf 1 _ rfl
      rw [cells3] at h
      exact h
    have h2 : okT Tryz.prog (m + 1) 3 [x2] := by
      have h : okT Tryz.prog (m + 1) 3 (([x0, x1, x2].drop 2).take (Tryz.prog.cellsOf 3)) := hf 2 _ rfl
      rw [cells3] at h
      exact h
    obtain ⟨i0, rfl⟩ := okT_i1 h0
    obtain ⟨i1, rfl⟩ := okT_i1 h1
    obtain ⟨i2, rfl⟩ := okT_i1 h2
    exact ⟨⟨i0, i1, i2⟩, rfl⟩
theorem okT_wt {m : Nat} {ds : List DC} (h : okT Tryz.prog (m + 2) 119 ds) : ∃ w : Wt, ds = w.e := by
  obtain ⟨a, b, rfl, _, _⟩ := okT_two Tryz.underlying119 Tryz.underlying3 Tryz.underlying3 rfl rfl cells3 cells3 cells119 h
  exact ⟨⟨a, b⟩, rfl⟩
theorem okT_list {α : Type} {e : α → List DC} {p : List DC → Prop} (hp : ∀ ds, p ds → ∃ a, ds = e a) : ∀ es : List (List DC), (∀ d ∈ es, p d) → ∃ l : List α, es = l.map e
  | [], _ => ⟨[], rfl⟩
  | d :: es, h => by
    obtain ⟨l, rfl⟩ := okT_list hp es (fun d hd => h d (List.mem_cons_of_mem _ hd))
    obtain ⟨a, rfl⟩ := hp d (h d List.mem_cons_self)
    exact ⟨a :: l, rfl⟩
theorem okT_grs {m : Nat} {ds : List DC} (h : okT Tryz.prog (m + 3) 22 ds) : ∃ l : List Gr, ds = [.slc (l.map Gr.e)] := by
  rw [okT, Tryz.underlying22] at h
  obtain ⟨es, rfl, _, he⟩ := h
  obtain ⟨l, rfl⟩ := okT_list (fun ds => okT_gr (m := m)) es he
  exact ⟨l, rfl⟩
theorem okT_wts {m : Nat} {ds : List DC} (h : okT Tryz.prog (m + 3) 23 ds) : ∃ l : List Wt, ds = [.slc (l.map Wt.e)] := by
  rw [okT, Tryz.underlying23] at h
  obtain ⟨es, rfl, _, he⟩ := h
  obtain ⟨l, rfl⟩ := okT_list (fun ds => okT_wt (m := m)) es he
  exact ⟨l, rfl⟩
theorem okT_file {m : Nat} {ds : List DC} (h : okT Tryz.prog (m + 4) 25 ds) : ∃ (gs : List Gr) (ws : List Wt), ds = [.slc (gs.map Gr.e), .slc (ws.map Wt.e)] := by
  rw [okT, Tryz.underlying25] at h
  obtain ⟨hl, hf⟩ := h
  rw [cells25] at hl
  match ds, hl with
  | [x0, x1], _ =>
    have h0 : okT Tryz.prog (m + 3) 22 [x0] := by
      have h : okT Tryz.prog (m + 3) 22 (([x0, x1].drop 0).take (Tryz.prog.cellsOf 22)) := hf 0 _ rfl
      rw [cells22] at h
      exact h
    have h1 : okT Tryz.prog (m + 3) 23 [x1] := by
      have h : okT Tryz.prog (m + 3) 23 (([x0, x1].drop 1).take (Tryz.prog.cellsOf 23)) := hf 1 _ rfl
      rw [cells23] at h
      exact h
    obtain ⟨gs, e0⟩ := okT_grs h0
    obtain ⟨ws, e1⟩ := okT_wts h1
    exact ⟨gs, ws, by rw [List.cons.inj e0 |>.1, List.cons.inj e1 |>.1]⟩
theorem okA_file {m : Nat} {av : AV} (h : okA Tryz.prog (m + 4) 25 av) : ∃ (gs : List Gr) (ws : List Wt), av = flV gs ws := by
  obtain ⟨ds, rfl, h2⟩ := okA_many (by kernel_rfl) h
  obtain ⟨gs, ws, rfl⟩ := okT_file h2
  exact ⟨gs, ws, rfl⟩
/-- the table that is laid -/
theorem tab_laid {W : World} (h : laidMetH Tryz.prog Rows.oplocksErrorsRow.laid W) : Lib.TabIs Tryz.prog W "depository/oplocks.allows" .i64 [2, 0, 1, 0] :=
  Lib.tabIs_of_head (zs := [2, 0, 1, 0]) Tryz.g0 (t := 203) (e := 3) (n := 4) (by kernel_rfl) (by kernel_rfl) Tryz.underlying3 cells3 (by kernel_rfl) (laidMet.tail (laidMet.tail (laidMet.tail (by rw [MakeChecks.laidMetH_plain _ _ _ (by kernel_rfl)] at h; exact h))))
theorem glob26 {W : World} (h : laidMetH Tryz.prog Rows.oplocksErrorsRow.laid W) : GlobOK (allF W) G26 := by
  intro g cs hg γ
  unfold G26 at hg
  split at hg
  · rename_i e
    subst e
    injection hg with hg
    subst hg
    have ht := tab_laid h
    refine .ref _ 0 0 (fun j => .int .i64 (([2, 0, 1, 0] : List Int).getD j 0)) (fun j d hd => ?_) (fun j d hd => ?_)
    · have hd' : ((([2, 0, 1, 0] : List Int).map fun n => ci n)[j]?) = some d := hd
      obtain ⟨n, hn, rfl⟩ := by simpa only [List.getElem?_map, Option.map_eq_some_iff] using hd'
      have : ([2, 0, 1, 0] : List Int).getD j 0 = n := by rw [List.getD, hn]; rfl
      rw [this]
      exact .raw _ rfl
    · have hj : j < ([2, 0, 1, 0] : List Int).length := (List.getElem?_eq_some_iff.1 hd).1
      rw [Nat.zero_add]
      exact ht.cell Tryz.g0 j hj
  · cases hg
abbrev nilVal : Value := .agg #[.slice none 0 0, .slice none 0 0]
/-- the variables as the door lays them -/
noncomputable abbrev doorW (os : Os) : World := World.doorLaid Tryz.prog 72 os
theorem door_met (os : Os) (args : Array Value) : laidMetH Tryz.prog Rows.oplocksErrorsRow.laid ((doorW os).forCall (fun _ _ => 0) ⟨#[], args, []⟩).memory :=
  laidMetH_of_parts3 (fuel := 8) (laidMet_of_run' 8 (by kernel_rfl) (by kernel_rfl)) (by kernel_rfl) (by kernel_rfl)
theorem bsT_ok : CallOK Tryz.prog G26 (bs true) := bs_ok fun _ => awake_q
theorem qcT {f : FuncId} {args : List AV} {r : AV} (h : EV G26 (Tb (bs true)) f args [] = some (r, [])) : QC Tryz.prog G26 f args r := EV_qc (Tb_ok (bs true)) bsT_ok h
end
section
set_option maxRecDepth 4000
set_option linter.unusedSimpArgs false
set_option linter.unusedVariables false
variable {G : Glob} {bb : Bool}
open Go.ChangeShapes Go.WideShapes Go.ChangeAt Go.RowKit
theorem cells58 : Tryz.prog.cellsOf 58 = 3 := by kernel_rfl
theorem okT_ac {m : Nat} {ds : List DC} (h : okT Tryz.prog (m + 2) 58 ds) : ∃ g : Ac, ds = g.e := by
  rw [okT, Tryz.underlying58] at h
  obtain ⟨hl, hf⟩ := h
  rw [cells58] at hl
  match ds, hl with
  | [x0, x1, x2], _ =>
    have h0 : okT Tryz.prog (m + 1) 3 [x0] := by
      have h : okT Tryz.prog (m + 1) 3 (([x0, x1, x2].drop 0).take (Tryz.prog.cellsOf 3)) := hf 0 _ rfl
      rw [cells3] at h
      exact h
    have h1 : okT Tryz.prog (m + 1) 3 [x1] := by
      have h : okT Tryz.prog (m + 1) 3 (([x0, x1, x2].drop 1).take (Tryz.prog.cellsOf 3)) := hf 1 _ rfl
      rw [cells3] at h
      exact h
    have h2 : okT Tryz.prog (m + 1) 3 [x2] := by
      have h : okT Tryz.prog (m + 1) 3 (([x0, x1, x2].drop 2).take (Tryz.prog.cellsOf 3)) := hf 2 _ rfl
      rw [cells3] at h
      exact h
    obtain ⟨i0, rfl⟩ := okT_i1 h0
    obtain ⟨i1, rfl⟩ := okT_i1 h1
    obtain ⟨i2, rfl⟩ := okT_i1 h2
    exact ⟨⟨i0, i1, i2⟩, rfl⟩
theorem okA_act {m : Nat} {av : AV} (h : okA Tryz.prog (m + 2) 58 av) : ∃ a : Ac, av = a.v ∧ True := by
  obtain ⟨ds, rfl, h2⟩ := okA_many (by kernel_rfl) h
  obtain ⟨a, rfl⟩ := okT_ac h2
  exact ⟨a, rfl, trivial⟩
abbrev actVal : Value := .agg #[.int .i64 0, .int .i64 0, .int .i64 0]
end
section
set_option maxRecDepth 4000
set_option linter.unusedSimpArgs false
set_option linter.unusedVariables false
variable {G : Glob} {bb : Bool}
open Go.ChangeShapes Go.WideShapes Go.ChangeAt Go.RowKit
set_option maxRecDepth 100000 in
theorem oplocksSteps_lifted (os : Os) (started : os.Started) (H : Type) (enc : TypeId × Value → H) :
    ReturnsInHanded {} Tryz.checked os 6 .any (fun w args => (Rows.oplocksStepsSpec.pre enc Tryz.prog Tryz.f6 [] false w args ∧ laidMetH Tryz.prog Rows.oplocksStepsRow.laid w) ∧ sizedMet enc Tryz.prog Tryz.f6 (OpenSpec.ofChange Rows.oplocksStepsSpec) false w args) (Rows.oplocksStepsSpec.post enc Tryz.prog Tryz.f6 false true false false) := by
  refine returnsInHanded_of_change_and (C := Tryz.checked) (X := fun w _ => laidMetH Tryz.prog Rows.oplocksStepsRow.laid w) (fun _ _ _ hh h => h.of_heap hh) Tryz.own started (by kernel_rfl) Tryz.func6
    (ChangeSpec.witness_shaped (enc := enc) (C := Tryz.checked) (os := os) (X := fun w _ => laidMetH Tryz.prog Rows.oplocksStepsRow.laid w) false (doorW os) #[nilVal, actVal] 8 rfl (World.shaped_of_RefB (by kernel_rfl) (by kernel_rfl)) (by kernel_rfl) (by kernel_rfl) (by kernel_rfl) (door_met os _)) ?_
  intro W base args ds gs before hval0 hW _ _ hL _
  have hval : ∀ (j : Nat) t v, Tryz.f6.params[j]? = some t → args[j]? = some v → Value.okWide Tryz.prog W .any base t v := hval0
  have hW' := hW
  obtain ⟨p, q, hA0, hV, rfl, hfz, hnd⟩ := hW
  have hA : DataW.TrodAll enc Tryz.prog W 0 (fun _ => true) true Tryz.f6.params.toList args.toList ds p := hA0
  obtain ⟨rfl, rfl⟩ := trodVars_none hV
  obtain ⟨avs, h1, h2, h3, h4⟩ := args_data (m := 7) hA (fun j t v a b => hval j t v (by simpa using a) (by simpa using b)) (by
    have : Tryz.f6.params.toList.all (datT Tryz.prog 7) = true := by kernel_rfl
    exact fun t ht => List.all_eq_true.1 this t ht)
  rw [Tryz.params6] at h3
  match avs, h3 with
  | [b0, b1], h3 =>
    obtain ⟨k0, k1, _⟩ := h3
    obtain ⟨a0, c0, rfl⟩ := okA_file k0
    obtain ⟨a1, rfl, g1⟩ := okA_act k1
    have hq := qcT (steps_v (G := G26) rfl a0 c0 a1)
    refine (law_calls hq (glob26 hL) ⟨by simpa using h1, fun i av v a b => h2 i av v a (by simpa using b)⟩).mono fun e W' ⟨he, hb⟩ => ?_
    subst he
    rw [Tryz.params6] at h4
    match ds, h4 with
    | [d0, d1], _ =>
      exact ⟨_, rfl, post_true (tb := 4) Tryz.laidOut (by
        have : Tryz.f6.params.toList.all (fun t => Tryz.prog.readableRec t && decide (t < Tryz.prog.types.size)) = true := by kernel_rfl
        intro t ht
        have := List.all_eq_true.1 this t ht
        rw [Bool.and_eq_true, decide_eq_true_eq] at this
        exact this) rfl rfl Tryz.underlying4 hW' rfl hb⟩
theorem oplocksSteps_said : Rows.OplocksStepsSaid :=
  OpenClaim.holds_of_wide 6 Tryz.f6 rfl rfl rfl rfl rfl rfl rfl ⟨rfl, rfl, rfl, rfl, rfl⟩ rfl rfl rfl rfl rfl (by kernel_rfl) Tryz.func6 (by kernel_rfl)
    (of_decide_eq_true (by kernel_rfl)) (by unfold Func.isWrapper; first | (rw [if_pos (by decide +kernel)]; kernel_rfl) | (rw [if_neg (by decide +kernel)]; exact ⟨rfl, rfl⟩))
    (fun os started H enc _ => oplocksSteps_lifted os started H enc)
theorem oplocksSteps_plain (f : FuncId) (fn : Func) (hf : Tryz.pinned.checked.prog.funcNamed "depository/depositorylaw26.OplocksSteps" = some f) (hfn : Tryz.pinned.checked.prog.funcs[f]? = some fn) :
    false = Tryz.pinned.checked.prog.looks [] ∧ ∀ (j : Nat) t, fn.params[j]? = some t → Tryz.pinned.checked.prog.wantsStandIn t = false := by
  obtain rfl : f = 6 := Option.some.inj ((show Tryz.prog.funcNamed "depository/depositorylaw26.OplocksSteps" = some 6 by kernel_rfl).symm.trans hf) |>.symm
  obtain rfl : fn = Tryz.f6 := (Option.some.inj (Tryz.func6.symm.trans hfn)).symm
  refine ⟨by kernel_rfl, fun j t ht => ?_⟩
  have hall : Tryz.f6.params.toList.all (fun t => !Tryz.prog.wantsStandIn t) = true := by kernel_rfl
  have := List.all_eq_true.1 hall t (by simpa using Array.mem_of_getElem? ht)
  have e : Tryz.prog.wantsStandIn t = false := by simpa using this
  exact e
/-- the card -/
theorem oplocksSteps_holds : Rows.OplocksStepsCardSaid :=
  Claim7.holds_tied_plain_at .later [] _ _ _ _ oplocksSteps_said (fun _ h => by cases h) (by kernel_rfl) (fun _ h => by cases h) oplocksSteps_row_tie rfl ⟨rfl, rfl⟩ (by kernel_rfl) rfl oplocksSteps_plain (by kernel_rfl)
end
end Go.Proofs.YtinageiefahjfaaGreatDoor
