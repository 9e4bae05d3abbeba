/- The frame of the seat's statements: acts and uses as data. Conditions: none. -/
import Derived.Test.YtinageiefahjfaaGreatDoorMf
import Derived.Test.YtinageiefahjfaaGreatDoorCards
import Derived.Test.YtinageiefahjfaaGreatDoorTie
import Derived.ProofKit
import Derived.MakeChecks
import Derived.Stop.LaidErr
import Derived.Deep.DeepHandedRow
import Derived.Lib.LaidTab
import Derived.LaidMore
import Derived.LaidHandle
import Derived.LaidLaws
namespace Go.Proofs.YtinageiefahjfaaGreatDoor
set_option linter.unusedSimpArgs false
set_option linter.unusedVariables false
set_option maxRecDepth 4000
section
variable {G : Glob} {bb : Bool}
open Go.ChangeShapes Go.WideShapes Go.ChangeAt Go.RowKit
theorem Tryz.own : ownKnob Tryz.prog.godebug = none := by kernel_rfl
theorem Tryz.laidOut : laidOutB Tryz.prog = true := by kernel_rfl
theorem Tryz.g0 : Tryz.prog.globalNamed "depository/oplocks.allows" = some 0 := by kernel_rfl
theorem cells3 : Tryz.prog.cellsOf 3 = 1 := by kernel_rfl
theorem cells22 : Tryz.prog.cellsOf 22 = 1 := by kernel_rfl
theorem cells23 : Tryz.prog.cellsOf 23 = 1 := by kernel_rfl
theorem cells25 : Tryz.prog.cellsOf 25 = 2 := by kernel_rfl
theorem cells79 : Tryz.prog.cellsOf 79 = 3 := by kernel_rfl
theorem cells119 : Tryz.prog.cellsOf 119 = 2 := by kernel_rfl
theorem okT_i1 {m : Nat} {x : DC} (h : okT Tryz.prog (m + 1) 3 [x]) : ∃ i : Int, x = ci i := by
  obtain ⟨i, h1, h2⟩ := okT_int1 Tryz.underlying3 h
  injection h1 with h1 _
  exact ⟨i, h1⟩
theorem okT_gr {m : Nat} {ds : List DC} (h : okT Tryz.prog (m + 2) 79 ds) : ∃ g : Gr, ds = g.e := by
  rw [okT, Tryz.underlying79] at h
  obtain ⟨hl, hf⟩ := h
  rw [cells79] at hl
  match ds, hl with
  | [x0, x1, x2], _ =>
    have h0 : okT Tryz.prog (m + 1) 3 [x0] := by
      have h : okT Tryz.prog (m + 1) 3 (([x0, x1, x2].drop 0).take (Tryz.prog.cellsOf 3)) := hf 0 _ rfl
      rw [cells3] at h
      exact h
    have h1 : okT Tryz.prog (m + 1) 3 [x1] := by
      have h : okT Tryz.prog (m + 1) 3 (([x0, x1, x2].drop 1).take (Tryz.prog.cellsOf 3)) := hf 1 _ rfl
      rw [cells3] at h
      exact h
    have h2 : okT Tryz.prog (m + 1) 3 [x2] := by
      have h : okT Tryz.prog (m + 1) 3 (([x0, x1, x2].drop 2).take (Tryz.prog.cellsOf 3)) := hf 2 _ rfl
      rw [cells3] at h
      exact h
    obtain ⟨i0, rfl⟩ := okT_i1 h0
    obtain ⟨i1, rfl⟩ := okT_i1 h1
    obtain ⟨i2, rfl⟩ := okT_i1 h2
    exact ⟨⟨i0, i1, i2⟩, rfl⟩
theorem okT_wt {m : Nat} {ds : List DC} (h : okT Tryz.prog (m + 2) 119 ds) : ∃ w : Wt, ds = w.e := by
  obtain ⟨a, b, rfl, _, _⟩ := okT_two Tryz.underlying119 Tryz.underlying3 Tryz.underlying3 rfl rfl cells3 cells3 cells119 h
  exact ⟨⟨a, b⟩, rfl⟩
theorem okT_list {α : Type} {e : α → List DC} {p : List DC → Prop} (hp : ∀ ds, p ds → ∃ a, ds = e a) : ∀ es : List (List DC), (∀ d ∈ es, p d) → ∃ l : List α, es = l.map e
  | [], _ => ⟨[], rfl⟩
  | d :: es, h => by
    obtain ⟨l, rfl⟩ := okT_list hp es (fun d hd => h d (List.mem_cons_of_mem _ hd))
    obtain ⟨a, rfl⟩ := hp d (h d List.mem_cons_self)
    exact ⟨a :: l, rfl⟩
theorem okT_grs {m : Nat} {ds : List DC} (h : okT Tryz.prog (m + 3) 22 ds) : ∃ l : List Gr, ds = [.slc (l.map Gr.e)] := by
  rw [okT, Tryz.underlying22] at h
  obtain ⟨es, rfl, _, he⟩ := h
  obtain ⟨l, rfl⟩ := okT_list (fun ds => okT_gr (m := m)) es he
  exact ⟨l, rfl⟩
theorem okT_wts {m : Nat} {ds : List DC} (h : okT Tryz.prog (m + 3) 23 ds) : ∃ l : List Wt, ds = [.slc (l.map Wt.e)] := by
  rw [okT, Tryz.underlying23] at h
  obtain ⟨es, rfl, _, he⟩ := h
  obtain ⟨l, rfl⟩ := okT_list (fun ds => okT_wt (m := m)) es he
  exact ⟨l, rfl⟩
theorem okT_file {m : Nat} {ds : List DC} (h : okT Tryz.prog (m + 4) 25 ds) : ∃ (gs : List Gr) (ws : List Wt), ds = [.slc (gs.map Gr.e), .slc (ws.map Wt.e)] := by
  rw [okT, Tryz.underlying25] at h
  obtain ⟨hl, hf⟩ := h
  rw [cells25] at hl
  match ds, hl with
  | [x0, x1], _ =>
    have h0 : okT Tryz.prog (m + 3) 22 [x0] := by
      have h : okT Tryz.prog (m + 3) 22 (([x0, x1].drop 0).take (Tryz.prog.cellsOf 22)) := hf 0 _ rfl
      rw [cells22] at h
      exact h
    have h1 : okT Tryz.prog (m + 3) 23 [x1] := by
      have h : okT Tryz.prog (m + 3) 23 (([x0, x1].drop 1).take (Tryz.prog.cellsOf 23)) := hf 1 _ rfl
      rw [cells23] at h
      exact h
    obtain ⟨gs, e0⟩ := okT_grs h0
    obtain ⟨ws, e1⟩ := okT_wts h1
    exact ⟨gs, ws, by rw [List.cons.inj e0 |>.1, List.cons.inj e1 |>.1]⟩
theorem okA_file {m : Nat} {av : AV} (h : okA Tryz.prog (m + 4) 25 av) : ∃ (gs : List Gr) (ws : List Wt), av = flV gs ws := by
  obtain ⟨ds, rfl, h2⟩ := okA_many (by kernel_rfl) h
  obtain ⟨gs, ws, rfl⟩ := okT_file h2
  exact ⟨gs, ws, rfl⟩
theorem tab_laid {W : World} (h : laidMetH Tryz.prog Rows.oplocksErrorsRow.laid W) : Lib.TabIs Tryz.prog W "depository/oplocks.allows" .i64 [2, 0, 1, 0] :=
  Lib.tabIs_of_head (zs := [2, 0, 1, 0]) Tryz.g0 (t := 203) (e := 3) (n := 4) (by kernel_rfl) (by kernel_rfl) Tryz.underlying3 cells3 (by kernel_rfl) (laidMet.tail (laidMet.tail (laidMet.tail (by rw [MakeChecks.laidMetH_plain _ _ _ (by kernel_rfl)] at h; exact h))))
theorem glob26 {W : World} (h : laidMetH Tryz.prog Rows.oplocksErrorsRow.laid W) : GlobOK (allF W) G26 := by
  intro g cs hg γ
  unfold G26 at hg
  split at hg
  · rename_i e
    subst e
    injection hg with hg
    subst hg
    have ht := tab_laid h
    refine .ref _ 0 0 (fun j => .int .i64 (([2, 0, 1, 0] : List Int).getD j 0)) (fun j d hd => ?_) (fun j d hd => ?_)
    · have hd' : ((([2, 0, 1, 0] : List Int).map fun n => ci n)[j]?) = some d := hd
      obtain ⟨n, hn, rfl⟩ := by simpa only [List.getElem?_map, Option.map_eq_some_iff] using hd'
      have : ([2, 0, 1, 0] : List Int).getD j 0 = n := by rw [List.getD, hn]; rfl
      rw [this]
      exact .raw _ rfl
    · have hj : j < ([2, 0, 1, 0] : List Int).length := (List.getElem?_eq_some_iff.1 hd).1
      rw [Nat.zero_add]
      exact ht.cell Tryz.g0 j hj
  · cases hg
abbrev nilVal : Value := .agg #[.slice none 0 0, .slice none 0 0]
noncomputable abbrev doorW (os : Os) : World := World.doorLaid Tryz.prog 72 os
theorem door_met (os : Os) (args : Array Value) : laidMetH Tryz.prog Rows.oplocksErrorsRow.laid ((doorW os).forCall (fun _ _ => 0) ⟨#[], args, []⟩).memory :=
  laidMetH_of_parts3 (fuel := 8) (laidMet_of_run' 8 (by kernel_rfl) (by kernel_rfl)) (by kernel_rfl) (by kernel_rfl)
theorem bsT_ok : CallOK Tryz.prog G26 (bs true) := bs_ok fun _ => awake_q
theorem qcT {f : FuncId} {args : List AV} {r : AV} (h : EV G26 (Tb (bs true)) f args [] = some (r, [])) : QC Tryz.prog G26 f args r := EV_qc (Tb_ok (bs true)) bsT_ok h
end
section
variable {G : Glob} {bb : Bool}
open Go.ChangeShapes Go.WideShapes Go.ChangeAt Go.RowKit
theorem cells58 : Tryz.prog.cellsOf 58 = 3 := by kernel_rfl
theorem okT_ac {m : Nat} {ds : List DC} (h : okT Tryz.prog (m + 2) 58 ds) : ∃ g : Ac, ds = g.e := by
  rw [okT, Tryz.underlying58] at h
  obtain ⟨hl, hf⟩ := h
  rw [cells58] at hl
  match ds, hl with
  | [x0, x1, x2], _ =>
    have h0 : okT Tryz.prog (m + 1) 3 [x0] := by
      have h : okT Tryz.prog (m + 1) 3 (([x0, x1, x2].drop 0).take (Tryz.prog.cellsOf 3)) := hf 0 _ rfl
      rw [cells3] at h
      exact h
    have h1 : okT Tryz.prog (m + 1) 3 [x1] := by
      have h : okT Tryz.prog (m + 1) 3 (([x0, x1, x2].drop 1).take (Tryz.prog.cellsOf 3)) := hf 1 _ rfl
      rw [cells3] at h
      exact h
    have h2 : okT Tryz.prog (m + 1) 3 [x2] := by
      have h : okT Tryz.prog (m + 1) 3 (([x0, x1, x2].drop 2).take (Tryz.prog.cellsOf 3)) := hf 2 _ rfl
      rw [cells3] at h
      exact h
    obtain ⟨i0, rfl⟩ := okT_i1 h0
    obtain ⟨i1, rfl⟩ := okT_i1 h1
    obtain ⟨i2, rfl⟩ := okT_i1 h2
    exact ⟨⟨i0, i1, i2⟩, rfl⟩
theorem okA_acts {m : Nat} {av : AV} (h : okA Tryz.prog (m + 3) 34 av) : ∃ l : List Ac, av = acsV l ∧ True := by
  obtain ⟨es, rfl, _, he⟩ := okA_slice Tryz.underlying34 h
  obtain ⟨l, rfl⟩ := okT_list (fun ds => okT_ac (m := m)) es he
  exact ⟨l, rfl, trivial⟩
end
end Go.Proofs.YtinageiefahjfaaGreatDoor
