/- OplocksOne returns true for every input, and each argument reads afterwards as it read before; the variables that the row lists are laid by the program's text. Conditions: none. -/
import Derived.Test.YtinageiefahjfaaDoorMf
import Derived.Test.YtinageiefahjfaaDoorCards
import Derived.Test.YtinageiefahjfaaDoorTie
import Derived.ProofKit
import Derived.MakeChecks
import Derived.Stop.LaidErr
import Derived.Deep.DeepHandedRow
import Derived.Lib.LaidTab
import Derived.LaidMore
import Derived.LaidHandle
import Derived.LaidLaws
import Derived.Test.YtinageiefahjfaaDoorSm
namespace Go.Proofs.YtinageiefahjfaaDoor
set_option linter.unusedSimpArgs false
set_option linter.unusedVariables false
set_option maxRecDepth 4000
section
variable {G : Glob} {bb : Bool}
open Go.ChangeShapes Go.WideShapes Go.ChangeAt Go.RowKit
theorem Tryd.own : ownKnob Tryd.prog.godebug = none := by kernel_rfl
theorem Tryd.laidOut : laidOutB Tryd.prog = true := by kernel_rfl
theorem Tryd.g0 : Tryd.prog.globalNamed "depository/oplocks.allows" = some 0 := by kernel_rfl
theorem cells3 : Tryd.prog.cellsOf 3 = 1 := by kernel_rfl
theorem okT_i1 {m : Nat} {x : DC} (h : okT Tryd.prog (m + 1) 3 [x]) : ∃ i : Int, x = ci i := by
  obtain ⟨i, h1, h2⟩ := okT_int1 Tryd.underlying3 h
  injection h1 with h1 _
  exact ⟨i, h1⟩
theorem okT_list {α : Type} {e : α → List DC} {p : List DC → Prop} (hp : ∀ ds, p ds → ∃ a, ds = e a) : ∀ es : List (List DC), (∀ d ∈ es, p d) → ∃ l : List α, es = l.map e
  | [], _ => ⟨[], rfl⟩
  | d :: es, h => by
    obtain ⟨l, rfl⟩ := okT_list hp es (fun d hd => h d (List.mem_cons_of_mem _ hd))
    obtain ⟨a, rfl⟩ := hp d (h d List.mem_cons_self)
    exact ⟨a :: l, rfl⟩
theorem tab_laid {W : World} (h : laidMetH Tryd.prog Rows.oplocksOneRow.laid W) : Lib.TabIs Tryd.prog W "depository/oplocks.allows" .i64 [2, 0, 1, 0] :=
  Lib.tabIs_of_head (zs := [2, 0, 1, 0]) Tryd.g0 (t := 114) (e := 3) (n := 4) (by kernel_rfl) (by kernel_rfl) Tryd.underlying3 cells3 (by kernel_rfl) (laidMet.tail (laidMet.tail (laidMet.tail (by rw [MakeChecks.laidMetH_plain _ _ _ (by kernel_rfl)] at h; exact h))))
theorem glob26 {W : World} (h : laidMetH Tryd.prog Rows.oplocksOneRow.laid W) : GlobOK (allF W) G26 := by
  intro g cs hg γ
  unfold G26 at hg
  split at hg
  · rename_i e
    subst e
    injection hg with hg
    subst hg
    have ht := tab_laid h
    refine .ref _ 0 0 (fun j => .int .i64 (([2, 0, 1, 0] : List Int).getD j 0)) (fun j d hd => ?_) (fun j d hd => ?_)
    · have hd' : ((([2, 0, 1, 0] : List Int).map fun n => ci n)[j]?) = some d := hd
      obtain ⟨n, hn, rfl⟩ := by simpa only [List.getElem?_map, Option.map_eq_some_iff] using hd'
      have : ([2, 0, 1, 0] : List Int).getD j 0 = n := by rw [List.getD, hn]; rfl
      rw [this]
      exact .raw _ rfl
    · have hj : j < ([2, 0, 1, 0] : List Int).length := (List.getElem?_eq_some_iff.1 hd).1
      rw [Nat.zero_add]
      exact ht.cell Tryd.g0 j hj
  · cases hg
noncomputable abbrev doorW (os : Os) : World := World.doorLaid Tryd.prog 72 os
theorem door_met (os : Os) (args : Array Value) : laidMetH Tryd.prog Rows.oplocksOneRow.laid ((doorW os).forCall (fun _ _ => 0) ⟨#[], args, []⟩).memory :=
  laidMetH_of_parts3 (fuel := 8) (laidMet_of_run' 8 (by kernel_rfl) (by kernel_rfl)) (by kernel_rfl) (by kernel_rfl)
theorem bsT_ok : CallOK Tryd.prog G26 (bs true) := bs_ok fun _ => awake_q
theorem qcT {f : FuncId} {args : List AV} {r : AV} (h : EV G26 (Tb (bs true)) f args [] = some (r, [])) : QC Tryd.prog G26 f args r := EV_qc (Tb_ok (bs true)) bsT_ok h
end
section
variable {G : Glob} {bb : Bool}
open Go.ChangeShapes Go.WideShapes Go.ChangeAt Go.RowKit
theorem cells58 : Tryd.prog.cellsOf 37 = 3 := by kernel_rfl
theorem okT_ac {m : Nat} {ds : List DC} (h : okT Tryd.prog (m + 2) 37 ds) : ∃ g : Ac, ds = g.e := by
  rw [okT, Tryd.underlying37] at h
  obtain ⟨hl, hf⟩ := h
  rw [cells58] at hl
  match ds, hl with
  | [x0, x1, x2], _ =>
    have h0 : okT Tryd.prog (m + 1) 3 [x0] := by
      have h : okT Tryd.prog (m + 1) 3 (([x0, x1, x2].drop 0).take (Tryd.prog.cellsOf 3)) := hf 0 _ rfl
      rw [cells3] at h
      exact h
    have h1 : okT Tryd.prog (m + 1) 3 [x1] := by
      have h : okT Tryd.prog (m + 1) 3 (([x0, x1, x2].drop 1).take (Tryd.prog.cellsOf 3)) := hf 1 _ rfl
      rw [cells3] at h
      exact h
    have h2 : okT Tryd.prog (m + 1) 3 [x2] := by
      have h : okT Tryd.prog (m + 1) 3 (([x0, x1, x2].drop 2).take (Tryd.prog.cellsOf 3)) := hf 2 _ rfl
      rw [cells3] at h
      exact h
    obtain ⟨i0, rfl⟩ := okT_i1 h0
    obtain ⟨i1, rfl⟩ := okT_i1 h1
    obtain ⟨i2, rfl⟩ := okT_i1 h2
    exact ⟨⟨i0, i1, i2⟩, rfl⟩
theorem okA_acts {m : Nat} {av : AV} (h : okA Tryd.prog (m + 3) 45 av) : ∃ l : List Ac, av = acsV l ∧ True := by
  obtain ⟨es, rfl, _, he⟩ := okA_slice Tryd.underlying45 h
  obtain ⟨l, rfl⟩ := okT_list (fun ds => okT_ac (m := m)) es he
  exact ⟨l, rfl, trivial⟩
end
section
variable {G : Glob} {bb : Bool}
open Go.ChangeShapes Go.WideShapes Go.ChangeAt Go.RowKit
set_option maxRecDepth 100000 in
theorem oplocksOne_lifted (os : Os) (started : os.Started) (H : Type) (enc : TypeId × Value → H) :
    ReturnsInHanded {} Tryd.checked os 4 .any (fun w args => (Rows.oplocksOneSpec.pre enc Tryd.prog Tryd.f4 [] false w args ∧ laidMetH Tryd.prog Rows.oplocksOneRow.laid w) ∧ sizedMet enc Tryd.prog Tryd.f4 (OpenSpec.ofChange Rows.oplocksOneSpec) false w args) (Rows.oplocksOneSpec.post enc Tryd.prog Tryd.f4 false true false false) := by
  refine returnsInHanded_of_change_and (C := Tryd.checked) (X := fun w _ => laidMetH Tryd.prog Rows.oplocksOneRow.laid w) (fun _ _ _ hh h => h.of_heap hh) Tryd.own started (by kernel_rfl) Tryd.func4
    (ChangeSpec.witness_shaped (enc := enc) (C := Tryd.checked) (os := os) (X := fun w _ => laidMetH Tryd.prog Rows.oplocksOneRow.laid w) false (doorW os) #[.slice none 0 0] 8 rfl (World.shaped_of_RefB (by kernel_rfl) (by kernel_rfl)) (by kernel_rfl) (by kernel_rfl) (by kernel_rfl) (door_met os _)) ?_
  intro W base args ds gs before hval0 hW _ _ hL _
  have hval : ∀ (j : Nat) t v, Tryd.f4.params[j]? = some t → args[j]? = some v → Value.okWide Tryd.prog W .any base t v := hval0
  have hW' := hW
  obtain ⟨p, q, hA0, hV, rfl, hfz, hnd⟩ := hW
  have hA : DataW.TrodAll enc Tryd.prog W 0 (fun _ => true) true Tryd.f4.params.toList args.toList ds p := hA0
  obtain ⟨rfl, rfl⟩ := trodVars_none hV
  obtain ⟨avs, h1, h2, h3, h4⟩ := args_data (m := 7) hA (fun j t v a b => hval j t v (by simpa using a) (by simpa using b)) (by
    have : Tryd.f4.params.toList.all (datT Tryd.prog 7) = true := by kernel_rfl
    exact fun t ht => List.all_eq_true.1 this t ht)
  rw [Tryd.params4] at h3
  match avs, h3 with
  | [b0], h3 =>
    obtain ⟨k0, _⟩ := h3
    obtain ⟨a0, rfl, g0⟩ := okA_acts k0
    have hq := qcT (one_v (G := G26) rfl a0)
    refine (law_calls hq (glob26 hL) ⟨by simpa using h1, fun i av v a b => h2 i av v a (by simpa using b)⟩).mono fun e W' ⟨he, hb⟩ => ?_
    subst he
    rw [Tryd.params4] at h4
    match ds, h4 with
    | [d0], _ =>
      exact ⟨_, rfl, post_true (tb := 4) Tryd.laidOut (by
        have : Tryd.f4.params.toList.all (fun t => Tryd.prog.readableRec t && decide (t < Tryd.prog.types.size)) = true := by kernel_rfl
        intro t ht
        have := List.all_eq_true.1 this t ht
        rw [Bool.and_eq_true, decide_eq_true_eq] at this
        exact this) rfl rfl Tryd.underlying4 hW' rfl hb⟩
theorem oplocksOne_said : Rows.OplocksOneSaid :=
  OpenClaim.holds_of_wide 4 Tryd.f4 rfl rfl rfl rfl rfl rfl rfl ⟨rfl, rfl, rfl, rfl, rfl⟩ rfl rfl rfl rfl rfl (by kernel_rfl) Tryd.func4 (by kernel_rfl)
    (of_decide_eq_true (by kernel_rfl)) (by unfold Func.isWrapper; first | (rw [if_pos (by decide +kernel)]; kernel_rfl) | (rw [if_neg (by decide +kernel)]; exact ⟨rfl, rfl⟩))
    (fun os started H enc _ => oplocksOne_lifted os started H enc)
theorem oplocksOne_plain (f : FuncId) (fn : Func) (hf : Tryd.pinned.checked.prog.funcNamed "depository/depositorylaw26.OplocksOne" = some f) (hfn : Tryd.pinned.checked.prog.funcs[f]? = some fn) :
    false = Tryd.pinned.checked.prog.looks [] ∧ ∀ (j : Nat) t, fn.params[j]? = some t → Tryd.pinned.checked.prog.wantsStandIn t = false := by
  obtain rfl : f = 4 := Option.some.inj ((show Tryd.prog.funcNamed "depository/depositorylaw26.OplocksOne" = some 4 by kernel_rfl).symm.trans hf) |>.symm
  obtain rfl : fn = Tryd.f4 := (Option.some.inj (Tryd.func4.symm.trans hfn)).symm
  refine ⟨by kernel_rfl, fun j t ht => ?_⟩
  have hall : Tryd.f4.params.toList.all (fun t => !Tryd.prog.wantsStandIn t) = true := by kernel_rfl
  have := List.all_eq_true.1 hall t (by simpa using Array.mem_of_getElem? ht)
  have e : Tryd.prog.wantsStandIn t = false := by simpa using this
  exact e
theorem oplocksOne_holds : Rows.OplocksOneCardSaid :=
  Claim7.holds_tied_plain_at .later [] _ _ _ _ oplocksOne_said (fun _ h => by cases h) (by kernel_rfl) (fun _ h => by cases h) oplocksOne_row_tie rfl ⟨rfl, rfl⟩ (by kernel_rfl) rfl oplocksOne_plain (by kernel_rfl)
end
end Go.Proofs.YtinageiefahjfaaDoor
