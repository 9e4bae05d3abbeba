/- AttributeSorts returns true for every input, and each argument reads afterwards as it read before; the variables that the row lists are laid by the program's text. Conditions: none. -/
import Derived.Test.YtmognenhkecngaaGreatDoorUw
import Derived.Test.YtmognenhkecngaaGreatDoorMf
import Derived.Test.YtmognenhkecngaaGreatDoorCards
import Derived.Test.YtmognenhkecngaaGreatDoorTie
import Derived.ProofKit
import Derived.MakeChecks
import Derived.Stop.LaidErr
import Derived.Deep.DeepHandedRow
import Derived.Lib.LaidTab
import Derived.LaidMore
import Derived.LaidHandle
import Derived.LaidLaws
namespace Go.Proofs.YtmognenhkecngaaGreatDoor
set_option linter.unusedSimpArgs false
set_option linter.unusedVariables false
set_option maxRecDepth 4000
section
variable {G : Glob} {bb : Bool}
open Go.ChangeShapes Go.WideShapes Go.ChangeAt Go.RowKit
theorem Tryz.own : ownKnob Tryz.prog.godebug = none := by kernel_rfl
theorem Tryz.laidOut : laidOutB Tryz.prog = true := by kernel_rfl
theorem Tryz.g64 : Tryz.prog.globalNamed "math/bits.deBruijn64tab" = some 5 := by kernel_rfl
theorem cells3 : Tryz.prog.cellsOf 3 = 1 := by kernel_rfl
theorem cells4 : Tryz.prog.cellsOf 4 = 1 := by kernel_rfl
theorem cells5 : Tryz.prog.cellsOf 5 = 1 := by kernel_rfl
theorem cells9 : Tryz.prog.cellsOf 9 = 1 := by kernel_rfl
theorem cells22 : Tryz.prog.cellsOf 22 = 1 := by kernel_rfl
theorem cells24 : Tryz.prog.cellsOf 24 = 11 := by kernel_rfl
theorem cells85 : Tryz.prog.cellsOf 85 = 2 := by kernel_rfl
def In64 (i : Int) : Prop := -9223372036854775808 ≤ i ∧ i ≤ 9223372036854775807
theorem okT_runs {m : Nat} {ds : List DC} (h : okT Tryz.prog (m + 4) 22 ds) : ∃ l : List Run, ds = [.slc (l.map Run.e)] ∧ ∀ r ∈ l, In64 r.s ∧ In64 r.n := by
  rw [okT, Tryz.underlying22] at h
  obtain ⟨es, rfl, _, he⟩ := h
  have key : ∀ es : List (List DC), (∀ d ∈ es, okT Tryz.prog (m + 3) 85 d) → ∃ l : List Run, es = l.map Run.e ∧ ∀ r ∈ l, In64 r.s ∧ In64 r.n := by
    intro es
    induction es with
    | nil => intro _; exact ⟨[], rfl, by simp⟩
    | cons d es ih =>
      intro h
      obtain ⟨l, rfl, hl⟩ := ih (fun d hd => h d (List.mem_cons_of_mem _ hd))
      obtain ⟨a, b, rfl, ha, hb⟩ := okT_two Tryz.underlying85 Tryz.underlying3 Tryz.underlying3 rfl rfl cells3 cells3 cells85 (h d List.mem_cons_self)
      exact ⟨⟨a, b⟩ :: l, rfl, fun r hr => by
        rcases List.mem_cons.1 hr with rfl | hr
        · exact ⟨ha, hb⟩
        · exact hl r hr⟩
  obtain ⟨l, rfl, hl⟩ := key es he
  exact ⟨l, rfl, hl⟩
theorem okT_str1 {m : Nat} {x : DC} (h : okT Tryz.prog (m + 1) 9 [x]) : ∃ l : List Int, x = .raw (.string (str l)) ∧ Byts l := by
  rw [okT, Tryz.underlying9] at h
  obtain ⟨s, h1, _⟩ := h
  obtain ⟨l, h2, rfl⟩ := str_all s
  injection h1 with h1 _
  exact ⟨l, h1, h2⟩
theorem okT_i1 {m : Nat} {x : DC} (h : okT Tryz.prog (m + 1) 3 [x]) : ∃ i : Int, x = ci i ∧ In64 i := by
  obtain ⟨i, h1, h2⟩ := okT_int1 Tryz.underlying3 h
  injection h1 with h1 _
  exact ⟨i, h1, i64_bounds h2⟩
theorem okT_b1 {m : Nat} {x : DC} (h : okT Tryz.prog (m + 1) 4 [x]) : ∃ b : Bool, x = .raw (.bool b) := by
  rw [okT, Tryz.underlying4] at h
  obtain ⟨b, h1⟩ := h
  injection h1 with h1 _
  exact ⟨b, h1⟩
structure Att.In (a : Att) : Prop where
  ty : In64 a.ty
  id : In64 a.id
  fl : In64 a.fl
  fi : In64 a.fi
  al : In64 a.al
  sz : In64 a.sz
  vd : In64 a.vd
  nm : Byts a.nm
  va : Byts a.va
  rs : ∀ r ∈ a.rs, In64 r.s ∧ In64 r.n
def Att.d (a : Att) : List DC := [ci a.ty, .raw (.string (str a.nm)), ci a.id, ci a.fl, .raw (.bool a.res), .raw (.string (str a.va)), ci a.fi, .slc (a.rs.map Run.e), ci a.al, ci a.sz, ci a.vd]
theorem okT_att {m : Nat} {ds : List DC} (h : okT Tryz.prog (m + 5) 24 ds) : ∃ a : Att, ds = a.d ∧ a.In := by
  rw [okT, Tryz.underlying24] at h
  obtain ⟨hl, hf⟩ := h
  rw [cells24] at hl
  match ds, hl with
  | [x0, x1, x2, x3, x4, x5, x6, x7, x8, x9, x10], _ =>
    have h0 : okT Tryz.prog (m + 4) 3 [x0] := by
      have h : okT Tryz.prog (m + 4) 3 (([x0, x1, x2, x3, x4, x5, x6, x7, x8, x9, x10].drop 0).take (Tryz.prog.cellsOf 3)) := hf 0 _ rfl
      rw [cells3] at h
      exact h
    have h1 : okT Tryz.prog (m + 4) 9 [x1] := by
      have h : okT Tryz.prog (m + 4) 9 (([x0, x1, x2, x3, x4, x5, x6, x7, x8, x9, x10].drop 1).take (Tryz.prog.cellsOf 9)) := hf 1 _ rfl
      rw [cells9] at h
      exact h
    have h2 : okT Tryz.prog (m + 4) 3 [x2] := by
      have h : okT Tryz.prog (m + 4) 3 (([x0, x1, x2, x3, x4, x5, x6, x7, x8, x9, x10].drop 2).take (Tryz.prog.cellsOf 3)) := hf 2 _ rfl
      rw [cells3] at h
      exact h
    have h3 : okT Tryz.prog (m + 4) 3 [x3] := by
      have h : okT Tryz.prog (m + 4) 3 (([x0, x1, x2, x3, x4, x5, x6, x7, x8, x9, x10].drop 3).take (Tryz.prog.cellsOf 3)) := hf 3 _ rfl
      rw [cells3] at h
      exact h
    have h4 : okT Tryz.prog (m + 4) 4 [x4] := by
      have h : okT Tryz.prog (m + 4) 4 (([x0, x1, x2, x3, x4, x5, x6, x7, x8, x9, x10].drop 4).take (Tryz.prog.cellsOf 4)) := hf 4 _ rfl
      rw [cells4] at h
      exact h
    have h5 : okT Tryz.prog (m + 4) 9 [x5] := by
      have h : okT Tryz.prog (m + 4) 9 (([x0, x1, x2, x3, x4, x5, x6, x7, x8, x9, x10].drop 5).take (Tryz.prog.cellsOf 9)) := hf 5 _ rfl
      rw [cells9] at h
      exact h
    have h6 : okT Tryz.prog (m + 4) 3 [x6] := by
      have h : okT Tryz.prog (m + 4) 3 (([x0, x1, x2, x3, x4, x5, x6, x7, x8, x9, x10].drop 6).take (Tryz.prog.cellsOf 3)) := hf 6 _ rfl
      rw [cells3] at h
      exact h
    have h7 : okT Tryz.prog (m + 4) 22 [x7] := by
      have h : okT Tryz.prog (m + 4) 22 (([x0, x1, x2, x3, x4, x5, x6, x7, x8, x9, x10].drop 7).take (Tryz.prog.cellsOf 22)) := hf 7 _ rfl
      rw [cells22] at h
      exact h
    have h8 : okT Tryz.prog (m + 4) 3 [x8] := by
      have h : okT Tryz.prog (m + 4) 3 (([x0, x1, x2, x3, x4, x5, x6, x7, x8, x9, x10].drop 8).take (Tryz.prog.cellsOf 3)) := hf 8 _ rfl
      rw [cells3] at h
      exact h
    have h9 : okT Tryz.prog (m + 4) 3 [x9] := by
      have h : okT Tryz.prog (m + 4) 3 (([x0, x1, x2, x3, x4, x5, x6, x7, x8, x9, x10].drop 9).take (Tryz.prog.cellsOf 3)) := hf 9 _ rfl
      rw [cells3] at h
      exact h
    have h10 : okT Tryz.prog (m + 4) 3 [x10] := by
      have h : okT Tryz.prog (m + 4) 3 (([x0, x1, x2, x3, x4, x5, x6, x7, x8, x9, x10].drop 10).take (Tryz.prog.cellsOf 3)) := hf 10 _ rfl
      rw [cells3] at h
      exact h
    obtain ⟨i0, rfl, e0⟩ := okT_i1 h0
    obtain ⟨i1, rfl, e1⟩ := okT_str1 h1
    obtain ⟨i2, rfl, e2⟩ := okT_i1 h2
    obtain ⟨i3, rfl, e3⟩ := okT_i1 h3
    obtain ⟨i4, rfl⟩ := okT_b1 h4
    obtain ⟨i5, rfl, e5⟩ := okT_str1 h5
    obtain ⟨i6, rfl, e6⟩ := okT_i1 h6
    obtain ⟨i7, g7, e7⟩ := okT_runs h7
    obtain ⟨i8, rfl, e8⟩ := okT_i1 h8
    obtain ⟨i9, rfl, e9⟩ := okT_i1 h9
    obtain ⟨i10, rfl, e10⟩ := okT_i1 h10
    injection g7 with g7 _
    subst g7
    exact ⟨⟨i0, i1, i2, i3, i4, i5, i6, i7, i8, i9, i10⟩, rfl, ⟨e0, e2, e3, e6, e8, e9, e10, e1, e5, e7⟩⟩
theorem okA_atts {m : Nat} {av : AV} (h : okA Tryz.prog (m + 6) 45 av) : ∃ l : List Att, av = vl (l.map Att.e) ∧ (∀ a ∈ l, a.In) ∧ l.length ≤ 9223372036854775807 := by
  obtain ⟨es, rfl, hm, he⟩ := okA_slice Tryz.underlying45 h
  have hm' : es.length ≤ 9223372036854775807 := Nat.le_trans hm (by unfold maxLen; omega)
  have key : ∀ es : List (List DC), (∀ d ∈ es, okT Tryz.prog (m + 5) 24 d) → ∃ l : List Att, es = l.map Att.e ∧ ∀ a ∈ l, a.In := by
    intro es
    induction es with
    | nil => intro _; exact ⟨[], rfl, by simp⟩
    | cons d es ih =>
      intro h
      obtain ⟨l, rfl, hl⟩ := ih (fun d hd => h d (List.mem_cons_of_mem _ hd))
      obtain ⟨a, rfl, ha⟩ := okT_att (h d List.mem_cons_self)
      exact ⟨a :: l, rfl, fun r hr => by
        rcases List.mem_cons.1 hr with rfl | hr
        · exact ha
        · exact hl r hr⟩
  obtain ⟨l, rfl, hl⟩ := key es he
  exact ⟨l, rfl, hl, by simpa using hm'⟩
theorem tab_laid {W : World} (h : laidMetH Tryz.prog Rows.attributeMovesRow.laid W) : Lib.TabIs Tryz.prog W "math/bits.deBruijn64tab" .u8 tab64 :=
  Lib.tabIs_of_head (zs := tab64) Tryz.g64 (t := 232) (e := 5) (n := 64) (by kernel_rfl) (by kernel_rfl) Tryz.underlying5 cells5 (by kernel_rfl) (laidMet.tail (by rw [MakeChecks.laidMetH_plain _ _ _ (by kernel_rfl)] at h; exact h))
theorem tab_rc {W : World} {name : String} {k : IntKind} {zs : List Int} {g : Nat} (ht : Lib.TabIs Tryz.prog W name k zs) (hg : Tryz.prog.globalNamed name = some g) :
    (∀ γ, RC (allF W) γ (.ref (zs.map fun n => .raw (.int k n))) (.pointer (some ⟨g, 0, none⟩))) ∧ ∃ o, allF W g = some o ∧ ∃ vs t z, o = .cells vs t z ∧ vs.size = (zs.map fun n => DC.raw (.int k n)).length := by
  refine ⟨fun γ => .ref _ g 0 (fun j => .int k (zs.getD j 0)) (fun j d hd => ?_) (fun j d hd => ?_), ?_⟩
  · obtain ⟨n, hn, rfl⟩ := by simpa only [List.getElem?_map, Option.map_eq_some_iff] using hd
    have : zs.getD j 0 = n := by rw [List.getD, hn]; rfl
    rw [this]
    exact .raw _ rfl
  · have hj : j < zs.length := by
      have := (List.getElem?_eq_some_iff.1 hd).1
      simpa using this
    rw [Nat.zero_add]
    exact ht.cell hg j hj
  · unfold Lib.TabIs World.var? at ht
    rw [hg, Option.bind_some] at ht
    unfold allF
    cases ho : W.heap[g]? with
    | none => rw [ho] at ht; cases ht
    | some o =>
      rw [ho] at ht
      cases o with
      | cells vs t z =>
        simp only [Option.some.injEq] at ht
        exact ⟨_, rfl, _, _, _, rfl, by rw [ht]; simp⟩
      | _ => simp at ht
theorem glob8 {W : World} (h : laidMetH Tryz.prog Rows.attributeMovesRow.laid W) : GlobOK (allF W) G8 := by
  have hq : ∀ g cs, G8 g = some cs → g = 5 ∧ cs = tab64.map fun n => DC.raw (.int .u8 n) := by
    intro g cs hg
    unfold G8 at hg
    split at hg
    · rename_i e
      injection hg with hg
      exact ⟨e, hg.symm⟩
    · cases hg
  have ht := tab_rc (tab_laid h) Tryz.g64
  refine ⟨fun g cs hg γ => ?_, fun g cs hg => ?_⟩
  · obtain ⟨rfl, rfl⟩ := hq g cs hg
    exact ht.1 γ
  · obtain ⟨rfl, rfl⟩ := hq g cs hg
    exact ht.2
noncomputable abbrev doorW (os : Os) : World := World.doorLaid Tryz.prog 72 os
theorem door_met (os : Os) (args : Array Value) : laidMetH Tryz.prog Rows.attributeMovesRow.laid ((doorW os).forCall (fun _ _ => 0) ⟨#[], args, []⟩).memory :=
  laidMetH_of_parts3 (fuel := 8) (laidMet_of_run' 8 (by kernel_rfl) (by kernel_rfl)) (by kernel_rfl) (by kernel_rfl)
end
section
variable {G : Glob} {bb : Bool}
open Go.ChangeShapes Go.WideShapes Go.ChangeAt Go.RowKit
theorem qcO {f : FuncId} {args : List AV} {r : AV} (h : EV G8 (Tb (bsS true)) f args [] = some (r, [])) : QC Tryz.prog G8 f args r := EV_qc (Tb_ok (bsS true)) (bsO_ok fun _ => awake_q) h
set_option maxRecDepth 100000 in
theorem attributeSorts_lifted (os : Os) (started : os.Started) (H : Type) (enc : TypeId × Value → H) :
    ReturnsInHanded {} Tryz.checked os 9 .any (fun w args => (Rows.attributeSortsSpec.pre enc Tryz.prog Tryz.f9 [] false w args ∧ laidMetH Tryz.prog Rows.attributeSortsRow.laid w) ∧ sizedMet enc Tryz.prog Tryz.f9 (OpenSpec.ofChange Rows.attributeSortsSpec) false w args) (Rows.attributeSortsSpec.post enc Tryz.prog Tryz.f9 false true false false) := by
  refine returnsInHanded_of_change_and (C := Tryz.checked) (X := fun w _ => laidMetH Tryz.prog Rows.attributeSortsRow.laid w) (fun _ _ _ hh h => h.of_heap hh) Tryz.own started (by kernel_rfl) Tryz.func9
    (ChangeSpec.witness_shaped (enc := enc) (C := Tryz.checked) (os := os) (X := fun w _ => laidMetH Tryz.prog Rows.attributeSortsRow.laid w) false (doorW os) #[.slice none 0 0] 8 rfl (World.shaped_of_RefB (by kernel_rfl) (by kernel_rfl)) (by kernel_rfl) (by kernel_rfl) (by kernel_rfl) (door_met os _)) ?_
  intro W base args ds gs before hval0 hW _ _ hL _
  have hval : ∀ (j : Nat) t v, Tryz.f9.params[j]? = some t → args[j]? = some v → Value.okWide Tryz.prog W .any base t v := hval0
  have hW' := hW
  obtain ⟨p, q, hA0, hV, rfl, hfz, hnd⟩ := hW
  have hA : DataW.TrodAll enc Tryz.prog W 0 (fun _ => true) true Tryz.f9.params.toList args.toList ds p := hA0
  obtain ⟨rfl, rfl⟩ := trodVars_none hV
  obtain ⟨avs, h1, h2, h3, h4⟩ := args_data (m := 7) hA (fun j t v a b => hval j t v (by simpa using a) (by simpa using b)) (by
    have : Tryz.f9.params.toList.all (datT Tryz.prog 7) = true := by kernel_rfl
    exact fun t ht => List.all_eq_true.1 this t ht)
  rw [Tryz.params9] at h3
  match avs, h3 with
  | [b0], h3 =>
    obtain ⟨k0, _⟩ := h3
    obtain ⟨a0, rfl, g0⟩ := okA_atts k0
    have hq := qcO (sorts_v a0 (fun a ha => ⟨(g0.1 a ha).nm, (g0.1 a ha).va⟩) g0.2)
    refine (law_calls hq (glob8 hL) ⟨by simpa using h1, fun i av v a b => h2 i av v a (by simpa using b)⟩).mono fun e W' ⟨he, hb⟩ => ?_
    subst he
    rw [Tryz.params9] at h4
    match ds, h4 with
    | [d0], _ =>
      exact ⟨_, rfl, post_true (tb := 4) Tryz.laidOut (by
        have : Tryz.f9.params.toList.all (fun t => Tryz.prog.readableRec t && decide (t < Tryz.prog.types.size)) = true := by kernel_rfl
        intro t ht
        have := List.all_eq_true.1 this t ht
        rw [Bool.and_eq_true, decide_eq_true_eq] at this
        exact this) rfl rfl Tryz.underlying4 hW' rfl hb⟩
theorem attributeSorts_said : Rows.AttributeSortsSaid :=
  OpenClaim.holds_of_wide 9 Tryz.f9 rfl rfl rfl rfl rfl rfl rfl ⟨rfl, rfl, rfl, rfl, rfl⟩ rfl rfl rfl rfl rfl (by kernel_rfl) Tryz.func9 (by kernel_rfl)
    (of_decide_eq_true (by kernel_rfl)) (by unfold Func.isWrapper; first | (rw [if_pos (by decide +kernel)]; kernel_rfl) | (rw [if_neg (by decide +kernel)]; exact ⟨rfl, rfl⟩))
    (fun os started H enc _ => attributeSorts_lifted os started H enc)
theorem attributeSorts_plain (f : FuncId) (fn : Func) (hf : Tryz.pinned.checked.prog.funcNamed "depository/depositorylaw08.AttributeSorts" = some f) (hfn : Tryz.pinned.checked.prog.funcs[f]? = some fn) :
    true = Tryz.pinned.checked.prog.looks [] ∧ ∀ (j : Nat) t, fn.params[j]? = some t → Tryz.pinned.checked.prog.wantsStandIn t = false := by
  obtain rfl : f = 9 := Option.some.inj ((show Tryz.prog.funcNamed "depository/depositorylaw08.AttributeSorts" = some 9 by kernel_rfl).symm.trans hf) |>.symm
  obtain rfl : fn = Tryz.f9 := (Option.some.inj (Tryz.func9.symm.trans hfn)).symm
  refine ⟨by kernel_rfl, fun j t ht => ?_⟩
  have hall : Tryz.f9.params.toList.all (fun t => !Tryz.prog.wantsStandIn t) = true := by kernel_rfl
  have := List.all_eq_true.1 hall t (by simpa using Array.mem_of_getElem? ht)
  have e : Tryz.prog.wantsStandIn t = false := by simpa using this
  exact e
theorem attributeSorts_holds : Rows.AttributeSortsCardSaid :=
  Claim7.holds_tied_plain_at .later [] _ _ _ _ attributeSorts_said (fun _ h => by cases h) (by kernel_rfl) (fun _ h => by cases h) attributeSorts_row_tie rfl ⟨rfl, rfl⟩ (by kernel_rfl) rfl attributeSorts_plain (by kernel_rfl)
end
end Go.Proofs.YtmognenhkecngaaGreatDoor
