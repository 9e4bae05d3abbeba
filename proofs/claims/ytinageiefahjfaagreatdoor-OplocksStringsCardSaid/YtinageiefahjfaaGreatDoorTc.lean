/- OplocksStrings returns true for every input, and each argument reads afterwards as it read before; the variables that the row lists are laid by the program's text. Conditions: none. -/
import Derived.Test.YtinageiefahjfaaGreatDoorMf
import Derived.Test.YtinageiefahjfaaGreatDoorCards
import Derived.Test.YtinageiefahjfaaGreatDoorTie
import Derived.ProofKit
import Derived.MakeChecks
import Derived.Stop.LaidErr
import Derived.Deep.DeepHandedRow
import Derived.Lib.LaidTab
import Derived.LaidMore
import Derived.LaidHandle
import Derived.LaidLaws
import Derived.Test.YtinageiefahjfaaGreatDoorVj
import Derived.Lay
import Derived.Shelf.Vars
namespace Go.Proofs.YtinageiefahjfaaGreatDoor
set_option linter.unusedSimpArgs false
set_option linter.unusedVariables false
set_option maxRecDepth 4000
section
variable {G : Glob} {bb : Bool}
open Go.ChangeShapes Go.WideShapes Go.ChangeAt Go.RowKit
theorem Tryz.own : ownKnob Tryz.prog.godebug = none := by kernel_rfl
theorem Tryz.laidOut : laidOutB Tryz.prog = true := by kernel_rfl
theorem Tryz.g0 : Tryz.prog.globalNamed "depository/oplocks.allows" = some 0 := by kernel_rfl
theorem cells3 : Tryz.prog.cellsOf 3 = 1 := by kernel_rfl
theorem cells22 : Tryz.prog.cellsOf 22 = 1 := by kernel_rfl
theorem cells23 : Tryz.prog.cellsOf 23 = 1 := by kernel_rfl
theorem cells25 : Tryz.prog.cellsOf 25 = 2 := by kernel_rfl
theorem cells79 : Tryz.prog.cellsOf 79 = 3 := by kernel_rfl
theorem cells119 : Tryz.prog.cellsOf 119 = 2 := by kernel_rfl
theorem tab_rc {W : World} {name : String} {k : IntKind} {zs : List Int} {g : Nat} (ht : Lib.TabIs Tryz.prog W name k zs) (hg : Tryz.prog.globalNamed name = some g) :
    (∀ γ, RC (allF W) γ (.ref (zs.map fun n => .raw (.int k n))) (.pointer (some ⟨g, 0, none⟩))) ∧ ∃ o, allF W g = some o ∧ ∃ vs t z, o = .cells vs t z ∧ vs.size = (zs.map fun n => DC.raw (.int k n)).length := by
  refine ⟨fun γ => .ref _ g 0 (fun j => .int k (zs.getD j 0)) (fun j d hd => ?_) (fun j d hd => ?_), ?_⟩
  · obtain ⟨n, hn, rfl⟩ := by simpa only [List.getElem?_map, Option.map_eq_some_iff] using hd
    have : zs.getD j 0 = n := by rw [List.getD, hn]; rfl
    rw [this]
    exact .raw _ rfl
  · have hj : j < zs.length := by
      have := (List.getElem?_eq_some_iff.1 hd).1
      simpa using this
    rw [Nat.zero_add]
    exact ht.cell hg j hj
  · unfold Lib.TabIs World.var? at ht
    rw [hg, Option.bind_some] at ht
    unfold allF
    cases ho : W.heap[g]? with
    | none => rw [ho] at ht; cases ht
    | some o =>
      rw [ho] at ht
      cases o with
      | cells vs t z =>
        simp only [Option.some.injEq] at ht
        exact ⟨_, rfl, _, _, _, rfl, by rw [ht]; simp⟩
      | _ => simp at ht
abbrev nilVal : Value := .agg #[.slice none 0 0, .slice none 0 0]
end
section
variable {G : Glob} {bb : Bool}
open Go.ChangeShapes Go.WideShapes Go.ChangeAt Go.RowKit
theorem okT_iR {m : Nat} {x : DC} (h : okT Tryz.prog (m + 1) 3 [x]) : ∃ i : Int, x = ci i ∧ inR i := by
  obtain ⟨i, h1, h2⟩ := okT_int1 Tryz.underlying3 h
  injection h1 with h1 _
  exact ⟨i, h1, h2⟩
theorem okT_grR {m : Nat} {ds : List DC} (h : okT Tryz.prog (m + 2) 79 ds) : ∃ g : Gr, ds = g.e ∧ inR g.c ∧ inR g.l ∧ inR g.t := by
  rw [okT, Tryz.underlying79] at h
  obtain ⟨hl, hf⟩ := h
  rw [cells79] at hl
  match ds, hl with
  | [x0, x1, x2], _ =>
    have h0 : okT Tryz.prog (m + 1) 3 [x0] := by
      have h : okT Tryz.prog (m + 1) 3 (([x0, x1, x2].drop 0).take (Tryz.prog.cellsOf 3)) := hf 0 _ rfl
      rw [cells3] at h
      exact h
    have h1 : okT Tryz.prog (m + 1) 3 [x1] := by
      have h : okT Tryz.prog (m + 1) 3 (([x0, x1, x2].drop 1).take (Tryz.prog.cellsOf 3)) := hf 1 _ rfl
      rw [cells3] at h
      exact h
    have h2 : okT Tryz.prog (m + 1) 3 [x2] := by
      have h : okT Tryz.prog (m + 1) 3 (([x0, x1, x2].drop 2).take (Tryz.prog.cellsOf 3)) := hf 2 _ rfl
      rw [cells3] at h
      exact h
    obtain ⟨i0, rfl, r0⟩ := okT_iR h0
    obtain ⟨i1, rfl, r1⟩ := okT_iR h1
    obtain ⟨i2, rfl, r2⟩ := okT_iR h2
    exact ⟨⟨i0, i1, i2⟩, rfl, r0, r1, r2⟩
theorem okT_wtR {m : Nat} {ds : List DC} (h : okT Tryz.prog (m + 2) 119 ds) : ∃ w : Wt, ds = w.e ∧ inR w.c := by
  obtain ⟨a, b, rfl, h1, _⟩ := okT_two Tryz.underlying119 Tryz.underlying3 Tryz.underlying3 rfl rfl cells3 cells3 cells119 h
  exact ⟨⟨a, b⟩, rfl, h1⟩
theorem okT_listR {α : Type} {e : α → List DC} {r : α → Prop} {p : List DC → Prop} (hp : ∀ ds, p ds → ∃ a, ds = e a ∧ r a) : ∀ es : List (List DC), (∀ d ∈ es, p d) → ∃ l : List α, es = l.map e ∧ ∀ a ∈ l, r a
  | [], _ => ⟨[], rfl, fun a ha => by cases ha⟩
  | d :: es, h => by
    obtain ⟨l, rfl, hl⟩ := okT_listR hp es (fun d hd => h d (List.mem_cons_of_mem _ hd))
    obtain ⟨a, rfl, ha⟩ := hp d (h d List.mem_cons_self)
    refine ⟨a :: l, rfl, fun b hb => ?_⟩
    rcases List.mem_cons.1 hb with rfl | hb
    · exact ha
    · exact hl b hb
theorem okT_fileR {m : Nat} {ds : List DC} (h : okT Tryz.prog (m + 4) 25 ds) : ∃ (gs : List Gr) (ws : List Wt), ds = [.slc (gs.map Gr.e), .slc (ws.map Wt.e)] ∧ (∀ g ∈ gs, inR g.c ∧ inR g.l ∧ inR g.t) ∧ ∀ w ∈ ws, inR w.c := by
  rw [okT, Tryz.underlying25] at h
  obtain ⟨hl, hf⟩ := h
  rw [cells25] at hl
  match ds, hl with
  | [x0, x1], _ =>
    have h0 : okT Tryz.prog (m + 3) 22 [x0] := by
      have h : okT Tryz.prog (m + 3) 22 (([x0, x1].drop 0).take (Tryz.prog.cellsOf 22)) := hf 0 _ rfl
      rw [cells22] at h
      exact h
    have h1 : okT Tryz.prog (m + 3) 23 [x1] := by
      have h : okT Tryz.prog (m + 3) 23 (([x0, x1].drop 1).take (Tryz.prog.cellsOf 23)) := hf 1 _ rfl
      rw [cells23] at h
      exact h
    rw [okT, Tryz.underlying22] at h0
    rw [okT, Tryz.underlying23] at h1
    obtain ⟨es, e0, _, he⟩ := h0
    obtain ⟨fs, e1, _, hf⟩ := h1
    obtain ⟨gs, rfl, hg⟩ := okT_listR (fun ds => okT_grR (m := m)) es he
    obtain ⟨ws, rfl, hw⟩ := okT_listR (fun ds => okT_wtR (m := m)) fs hf
    exact ⟨gs, ws, by rw [List.cons.inj e0 |>.1, List.cons.inj e1 |>.1], hg, hw⟩
theorem okA_fileR {m : Nat} {av : AV} (h : okA Tryz.prog (m + 4) 25 av) : ∃ (gs : List Gr) (ws : List Wt), av = flV gs ws ∧ (∀ g ∈ gs, inR g.c ∧ inR g.l ∧ inR g.t) ∧ ∀ w ∈ ws, inR w.c := by
  obtain ⟨ds, rfl, h2⟩ := okA_many (by kernel_rfl) h
  obtain ⟨gs, ws, rfl, h3⟩ := okT_fileR h2
  exact ⟨gs, ws, rfl, h3⟩
def G8 (m : Int) : Glob := fun g => if g = 0 then some alD else if g = 1 then some [ci m] else if g = 2 then some pwD else none
theorem G8_GS (m : Int) : GS (G8 m) := ⟨rfl, m, rfl⟩
theorem pow_laid {W : World} (h : laidMetH Tryz.prog Rows.oplocksStringsRow.laid W) : Lib.TabIs Tryz.prog W "internal/strconv.uint64pow10" .u64 [1, 10, 100, 1000, 10000, 100000, 1000000, 10000000, 100000000, 1000000000, 10000000000, 100000000000, 1000000000000, 10000000000000, 100000000000000, 1000000000000000, 10000000000000000, 100000000000000000, 1000000000000000000, 10000000000000000000] := by
  rw [MakeChecks.laidMetH_plain _ _ _ (by kernel_rfl)] at h
  obtain ⟨g, t, e, n, h1, h2, h3, h4, h5, h6⟩ : ∃ g t e n, Tryz.prog.globalNamed "internal/strconv.uint64pow10" = some g ∧ (Tryz.prog.globals[g]?).map (·.type) = some t ∧ Tryz.prog.underlying t = some (.array n e) ∧ Tryz.prog.underlying e = some (.int .u64) ∧ Tryz.prog.cellsOf e = 1 ∧ Tryz.prog.cellsOf t = n := ⟨2, 289, 275, 20, by kernel_rfl, by kernel_rfl, by kernel_rfl, by kernel_rfl, by kernel_rfl, by kernel_rfl⟩
  exact Lib.tabIs_of_head h1 h2 h3 h4 h5 h6 (laidMet.tail (laidMet.tail h))
theorem alw_laid {W : World} (h : laidMetH Tryz.prog Rows.oplocksStringsRow.laid W) : Lib.TabIs Tryz.prog W "depository/oplocks.allows" .i64 [2, 0, 1, 0] := by
  rw [MakeChecks.laidMetH_plain _ _ _ (by kernel_rfl)] at h
  exact Lib.tabIs_of_head (zs := [2, 0, 1, 0]) Tryz.g0 (t := 203) (e := 3) (n := 4) (by kernel_rfl) (by kernel_rfl) Tryz.underlying3 cells3 (by kernel_rfl) (laidMet.tail (laidMet.tail (laidMet.tail (laidMet.tail h))))
theorem glob8 {W : World} (h : laidMetH Tryz.prog Rows.oplocksStringsRow.laid W) (hsh : W.ShapedOpen Tryz.prog) : ∃ m, GlobOK (allF W) (G8 m) := by
  have hz : ((begin Tryz.prog (fun _ _ => 0) default).world.heap[1]?).bind Obj.row? = some (#[.int .i64 0], 3) := by kernel_rfl
  have hlt : 1 < Tryz.prog.globals.size := of_decide_eq_true (by kernel_rfl)
  obtain ⟨m, hm⟩ := cell_of_shapedOpen_int (P := Tryz.prog) (g := 1) (t := 3) (zero := #[.int .i64 0]) hsh hlt hz rfl (by kernel_rfl) (by kernel_rfl) Tryz.underlying3
  obtain ⟨cs, hh, hs, _⟩ := hsh.1 1 _ _ hlt hz
  have ta := tab_rc (alw_laid h) Tryz.g0
  have tp := tab_rc (pow_laid h) Tryz.g2
  have epw : ([1, 10, 100, 1000, 10000, 100000, 1000000, 10000000, 100000000, 1000000000, 10000000000, 100000000000, 1000000000000, 10000000000000, 100000000000000, 1000000000000000, 10000000000000000, 100000000000000000, 1000000000000000000, 10000000000000000000] : List Int) = Lib.pow10Tab := by decide
  rw [epw] at tp
  have hq : ∀ g cs, G8 m g = some cs → (g = 0 ∧ cs = alD) ∨ (g = 1 ∧ cs = [ci m]) ∨ (g = 2 ∧ cs = pwD) := by
    intro g cs hg
    unfold G8 at hg
    split at hg
    · rename_i e
      injection hg with hg
      exact .inl ⟨e, hg.symm⟩
    · split at hg
      · rename_i e
        injection hg with hg
        exact .inr (.inl ⟨e, hg.symm⟩)
      · split at hg
        · rename_i e
          injection hg with hg
          exact .inr (.inr ⟨e, hg.symm⟩)
        · cases hg
  refine ⟨m, fun g cs hg γ => ?_, fun g cs hg => ?_⟩
  · rcases hq g cs hg with ⟨rfl, rfl⟩ | ⟨rfl, rfl⟩ | ⟨rfl, rfl⟩
    · exact ta.1 γ
    · refine .ref _ 1 0 (fun _ => .int .i64 m) (fun j d hd => ?_) (fun j d hd => ?_)
      · match j with
        | 0 =>
          injection hd with hd
          subst hd
          exact .raw _ rfl
        | j + 1 => simp at hd
      · match j with
        | 0 =>
          have hm' := hm
          unfold World.cell? at hm'
          unfold Fz.cell? allF
          rw [hh] at hm' ⊢
          exact hm'
        | j + 1 => simp at hd
    · exact tp.1 γ
  · rcases hq g cs hg with ⟨rfl, rfl⟩ | ⟨rfl, rfl⟩ | ⟨rfl, rfl⟩
    · exact ta.2
    · exact ⟨_, hh, _, _, _, rfl, hs⟩
    · exact tp.2
end
section
variable {G : Glob} {bb : Bool}
open Go.ChangeShapes Go.WideShapes Go.ChangeAt Go.RowKit
section
variable {H : Type} {enc : TypeId × Value → H}
theorem returns_shaped {a : Assume} {C : Checked} {os : Os} {f : FuncId} {fn : Func} {s : ChangeSpec} {conds : List PathCond} {apart fresh handsOn again : Bool} {X : World → Array Value → Prop}
    (hX : ∀ (w w' : World) (args : Array Value), w.heap = w'.heap → X w args → X w' args)
    (own : ownKnob C.prog.godebug = none) (started : os.Started) (noInit : C.prog.inits.idxOf? f = none) (hfn : C.prog.funcs[f]? = some fn)
    (witness : ∃ (w : World) (tape : Tape) (i : Input), w.os = os ∧ (w.forCall tape i).Shaped C.prog ∧ i.vars = [] ∧ Input.okWide C.prog (w.forCall tape i) .any w.heap.size f i ∧
      ((s.pre enc C.prog fn conds apart (w.forCall tape i).memory i.args ∧ X (w.forCall tape i).memory i.args) ∧ sizedMet enc C.prog fn (OpenSpec.ofChange s) apart (w.forCall tape i).memory i.args) ∧ a.holds C.prog (lone (Frame.enter C.prog f i.args .normal) [] (w.forCall tape i)))
    (contract : ∀ (W : World) (base : Nat) (args : Array Value) (ds gs : List (DataW H)) (before : List MemPlace),
      (∀ (j : Nat) t v, fn.params[j]? = some t → args[j]? = some v → Value.okWide C.prog W .any base t v) →
      DataW.Whole enc C.prog fn.params.toList s.vars apart W args.toList ds gs before →
      X W args → W.ShapedOpen C.prog →
      Calls C.prog f args W fun e W' => ∃ v, e = .returned v ∧ s.post enc C.prog fn apart fresh handsOn again W args v W') :
    ReturnsInHanded a C os f .any (fun w args => (s.pre enc C.prog fn conds apart w args ∧ X w args) ∧ sizedMet enc C.prog fn (OpenSpec.ofChange s) apart w args) (s.post enc C.prog fn apart fresh handsOn again) := by
  refine returnsInHanded_of_calls own started noInit witness ?_
  intro w tape i _ hsh _ hok hpre hholds
  obtain ⟨_, _, _, fn', hfn', _, _, _, _, hval⟩ := hok
  have e : fn' = fn := Option.some.inj (hfn'.symm.trans hfn)
  subst e
  obtain ⟨⟨⟨ds, gs, before, hw, hc⟩, hx⟩, hz⟩ := hpre
  have hw' := DataW.Whole.of_heap (w' := w.forCall tape i) (by rfl) hw
  refine (contract (w.forCall tape i) w.heap.size i.args ds gs before hval hw' (hX _ _ _ (by rfl) hx) hsh).mono fun e W' ⟨v, he, hp⟩ => ?_
  subst he
  exact ChangeSpec.post_blind hp
end
theorem awake_q8 (m : Int) : QC Tryz.prog (G8 m) 10 [] (vb true) := awake_qG rfl
theorem bsS_ok8 (m : Int) : CallOK Tryz.prog (G8 m) (bsS true) := bsS_ok (G8_GS m) fun _ => awake_q8 m
theorem qc8 {m : Int} {f : FuncId} {args : List AV} {r : AV} (h : EV (G8 m) (Tb (bsS true)) f args [] = some (r, [])) : QC Tryz.prog (G8 m) f args r := EV_qc (Tb_ok (bsS true)) (bsS_ok8 m) h
set_option maxRecDepth 100000 in
theorem oplocksStrings_lifted (os : Os) (started : os.Started) (H : Type) (enc : TypeId × Value → H) :
    ReturnsInHanded {} Tryz.checked os 8 .any (fun w args => (Rows.oplocksStringsSpec.pre enc Tryz.prog Tryz.f8 [] false w args ∧ laidMetH Tryz.prog Rows.oplocksStringsRow.laid w) ∧ sizedMet enc Tryz.prog Tryz.f8 (OpenSpec.ofChange Rows.oplocksStringsSpec) false w args) (Rows.oplocksStringsSpec.post enc Tryz.prog Tryz.f8 false true false false) := by
  refine returns_shaped (C := Tryz.checked) (X := fun w _ => laidMetH Tryz.prog Rows.oplocksStringsRow.laid w) (fun _ _ _ hh h => h.of_heap hh) Tryz.own started (by kernel_rfl) Tryz.func8
    (ChangeSpec.witness_shaped (enc := enc) (C := Tryz.checked) (os := os) (X := fun w _ => laidMetH Tryz.prog Rows.oplocksStringsRow.laid w) false (World.laidAll Tryz.prog os Rows.oplocksStringsRow.laid) #[nilVal, .string ⟨#[]⟩] 8 (World.laidAll_os _ _ _)
      (World.shaped_of_ZipB (by kernel_rfl) (by kernel_rfl)) (by kernel_rfl) (by kernel_rfl) (by kernel_rfl)
      (by rw [MakeChecks.laidMetH_plain _ _ _ (by kernel_rfl)]; exact laidMet_laidAll _ (by kernel_rfl) (by kernel_rfl))) ?_
  intro W base args ds gs before hval0 hW hL hsh
  have hval : ∀ (j : Nat) t v, Tryz.f8.params[j]? = some t → args[j]? = some v → Value.okWide Tryz.prog W .any base t v := hval0
  have hW' := hW
  obtain ⟨p, q, hA0, hV, rfl, hfz, hnd⟩ := hW
  have hA : DataW.TrodAll enc Tryz.prog W 0 (fun _ => true) true Tryz.f8.params.toList args.toList ds p := hA0
  obtain ⟨rfl, rfl⟩ := trodVars_none hV
  obtain ⟨avs, h1, h2, h3, h4⟩ := args_data (m := 7) hA (fun j t v a b => hval j t v (by simpa using a) (by simpa using b)) (by
    have : Tryz.f8.params.toList.all (datT Tryz.prog 7) = true := by kernel_rfl
    exact fun t ht => List.all_eq_true.1 this t ht)
  rw [Tryz.params8] at h3
  match avs, h3 with
  | [b0, b1], h3 =>
    obtain ⟨k0, k1, _⟩ := h3
    obtain ⟨gs, ws, rfl, hg, hw⟩ := okA_fileR k0
    obtain ⟨s0, rfl, _⟩ := okA_string (by kernel_rfl) k1
    obtain ⟨s, hs, rfl⟩ := str_all s0
    obtain ⟨m, hgl⟩ := glob8 hL hsh
    have hq := qc8 (strings_v (G := G8 m) rfl gs ws s hs hg hw)
    refine (law_calls hq hgl ⟨by simpa using h1, fun i av v a b => h2 i av v a (by simpa using b)⟩).mono fun e W' ⟨he, hb⟩ => ?_
    subst he
    rw [Tryz.params8] at h4
    match ds, h4 with
    | [d0, d1], _ =>
      exact ⟨_, rfl, post_true (tb := 4) Tryz.laidOut (by
        have : Tryz.f8.params.toList.all (fun t => Tryz.prog.readableRec t && decide (t < Tryz.prog.types.size)) = true := by kernel_rfl
        intro t ht
        have := List.all_eq_true.1 this t ht
        rw [Bool.and_eq_true, decide_eq_true_eq] at this
        exact this) rfl rfl Tryz.underlying4 hW' rfl hb⟩
theorem oplocksStrings_said : Rows.OplocksStringsSaid :=
  OpenClaim.holds_of_wide 8 Tryz.f8 rfl rfl rfl rfl rfl rfl rfl ⟨rfl, rfl, rfl, rfl, rfl⟩ rfl rfl rfl rfl rfl (by kernel_rfl) Tryz.func8 (by kernel_rfl)
    (of_decide_eq_true (by kernel_rfl)) (by unfold Func.isWrapper; first | (rw [if_pos (by decide +kernel)]; kernel_rfl) | (rw [if_neg (by decide +kernel)]; exact ⟨rfl, rfl⟩))
    (fun os started H enc _ => oplocksStrings_lifted os started H enc)
theorem oplocksStrings_plain (f : FuncId) (fn : Func) (hf : Tryz.pinned.checked.prog.funcNamed "depository/depositorylaw26.OplocksStrings" = some f) (hfn : Tryz.pinned.checked.prog.funcs[f]? = some fn) :
    false = Tryz.pinned.checked.prog.looks [] ∧ ∀ (j : Nat) t, fn.params[j]? = some t → Tryz.pinned.checked.prog.wantsStandIn t = false := by
  obtain rfl : f = 8 := Option.some.inj ((show Tryz.prog.funcNamed "depository/depositorylaw26.OplocksStrings" = some 8 by kernel_rfl).symm.trans hf) |>.symm
  obtain rfl : fn = Tryz.f8 := (Option.some.inj (Tryz.func8.symm.trans hfn)).symm
  refine ⟨by kernel_rfl, fun j t ht => ?_⟩
  have hall : Tryz.f8.params.toList.all (fun t => !Tryz.prog.wantsStandIn t) = true := by kernel_rfl
  have := List.all_eq_true.1 hall t (by simpa using Array.mem_of_getElem? ht)
  have e : Tryz.prog.wantsStandIn t = false := by simpa using this
  exact e
theorem oplocksStrings_holds : Rows.OplocksStringsCardSaid :=
  Claim7.holds_tied_plain_at .later [] _ _ _ _ oplocksStrings_said (fun _ h => by cases h) (by kernel_rfl) (fun _ h => by cases h) oplocksStrings_row_tie rfl ⟨rfl, rfl⟩ (by kernel_rfl) rfl oplocksStrings_plain (by kernel_rfl)
end
end Go.Proofs.YtinageiefahjfaaGreatDoor
