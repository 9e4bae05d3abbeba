/- A call that makes an array of one's own. Conditions: none. -/
import Derived.Test.YtmognenhkecngaaGreatDoorMa
namespace Go.Proofs.YtmognenhkecngaaGreatDoor
section
theorem ifp {c : Prop} [Decidable c] {α : Sort _} {a b : α} (h : c) : ite c a b = a := if_pos h
theorem ifn {c : Prop} [Decidable c] {α : Sort _} {a b : α} (h : ¬ c) : ite c a b = b := if_neg h
section
variable {P : Program} {G : Glob} {k : Nat} {st st' : AS} {R : AS → Prop} {o : AOp} {rest : List AOp}
theorem VLe.int {k : IntKind} {a b : Int} (h : a = b) : VLe (.one (.dc (.raw (.int k a)))) (.one (.dc (.raw (.int k b)))) := by subst h; exact .refl _
def junks : Nat → List AV
  | 0 => []
  | n + 1 => .junk :: junks n
theorem junks_eq : ∀ n, junks n = List.replicate n .junk
  | 0 => rfl
  | n + 1 => by rw [junks, junks_eq n, List.replicate_succ]
theorem AC.of_codeJ {f : FuncId} {fn : Func} {n : Nat} {rs : List RetV} {ac : ACode} {args : List AV} {objs : List AObj} {Q : AV → List AObj → Prop} (hf : P.funcs[f]? = some fn) (hn : fn.ntmps = n)
    (hc : fn.body.bind (compileC P) = some ac) (hr : fn.results.toList.mapM (retOf P) = some rs)
    (h : AW P G objs.length ac (Fin objs.length rs Q) ⟨args ++ junks (n - args.length), objs⟩) : AC P G f args objs Q := AC.of_codeF hf hn hc hr (by rw [← junks_eq]; exact h)
/-- a nil slice as data -/
def nzC : Cel → Cel
  | .dc (.raw (.slice none 0 0)) => .dc (.slc [])
  | c => c
def nzT : TV → TV
  | .one c => .one (nzC c)
  | .agg cs => .agg (cs.map nzC)
def nzV : AV → AV
  | .one c => .one (nzC c)
  | .agg cs => .agg (cs.map nzC)
  | .tup l => .tup (l.map nzT)
  | .junk => .junk
theorem nzC_ok {F : Fz} {γ : List OI} {c : Cel} {v : Value} (h : RC F γ c v) : RC F γ (nzC c) v := by
  unfold nzC
  split
  · cases h with | dc _ _ h => cases h with | raw _ h => exact .dc _ _ (.nil _ _)
  · exact h
theorem nzCs_ok {F : Fz} {γ : List OI} {cs : List Cel} {vs : Array Value} (h : ∀ (i : Nat) c v, cs[i]? = some c → vs[i]? = some v → RC F γ c v) : ∀ (i : Nat) c v, (cs.map nzC)[i]? = some c → vs[i]? = some v → RC F γ c v := by
  intro i c v hc hv
  rw [List.getElem?_map] at hc
  obtain ⟨c0, h0, rfl⟩ := Option.map_eq_some_iff.1 hc
  exact nzC_ok (h i c0 v h0 hv)
theorem nzV_ok {F : Fz} {γ : List OI} {a : AV} {v : Value} (h : RV F γ a v) : RV F γ (nzV a) v := by
  cases h with
  | one c v h => exact .one _ _ (nzC_ok h)
  | agg cs vs hs h => exact .agg _ _ (by simpa using hs) (nzCs_ok h)
  | tup l vs hs h =>
    refine .tup _ _ (by simpa using hs) (fun i t v ht hv => ?_)
    rw [List.getElem?_map] at ht
    obtain ⟨t0, h0, rfl⟩ := Option.map_eq_some_iff.1 ht
    cases h i t0 v h0 hv with
    | one c v h => exact .one _ _ (nzC_ok h)
    | agg cs vs hs h => exact .agg _ _ (by simpa using hs) (nzCs_ok h)
  | junk v => exact .junk v
theorem AC.nz {f : FuncId} {args : List AV} {objs : List AObj} {Q : AV → List AObj → Prop} (h : AC P G f args objs fun av os => Q (nzV av) os) : AC P G f args objs Q := by
  refine h.gh (fun a os ho hl => ⟨nzV a, os, ?_, hl, ho⟩)
  intro F γ ac w hi hs hk
  refine ⟨F, γ, Ext.refl _ _ _ _, hi, ⟨hs.1, hs.2.1, fun i av v h1 h2 => ?_⟩, hk⟩
  cases i with
  | zero => simp at h1; subst h1; exact nzV_ok (hs.2.2 0 a v rfl h2)
  | succ i => simp at h1
/-- a slice's literal in a region that draws its order -/
def bsD (G : Glob) (st : AS) (dst : Option Nat) (size len : Nat) (z : List Value) (ps : List (Nat × AArg)) : Option AS :=
  (fillV (zs z (len * size)) (ps.map fun (j, x) => (j * size, size, evA G st.sl x))).bind fun cs => (dcs cs).bind fun ds =>
      if ds.length = len * size then some ⟨putS st.sl dst (.one (.bld st.hp.length len)), st.hp ++ [.arr len size (chunk size len ds)]⟩ else none
theorem WD.bs {b : AOp} {l : List (Bool × AOp)} {size len : Nat} {z : List Value} {ps : List (Nat × AArg)} (hgd : gOK G st b.guard) (ha : b.ai = .bslc size len z ps)
    (h : bsD G st b.dst size len z ps = some st') (hw : AWL P G k R l st') : AWL P G k R ((false, b) :: l) st := by
  unfold bsD at h
  obtain ⟨cs, hf, h⟩ := Option.bind_eq_some_iff.1 h
  obtain ⟨ds, hd, h⟩ := Option.bind_eq_some_iff.1 h
  split at h
  · rename_i hl
    injection h with h
    obtain ⟨h1, h2, h3⟩ := chunk_flat size len ds hl
    rw [zs_eq] at hf
    exact WD.bslcE (es := chunk size len ds) hgd ha (by rw [h1, ← dcs_dcC hd]; exact hf) h2 h3 h hw
  · cases h
/-- what a test that is known does with the operations that it guards -/
def gK (b : Bool) : AV → Option Bool
  | .one (.dc (.raw (.bool c))) => some (eqb c b)
  | .tup [] => some false
  | _ => none
def hdR : List AOp → Bool
  | o :: _ => !o.ai.isCall
  | [] => false
def hdD : List (Bool × AOp) → Bool
  | o :: _ => o.1 && o.2.ai.isPure
  | [] => false
def goK (G : Glob) (g : Nat) (b : Bool) (ops : List AOp) (st : AS) : Option Bool → Option (List AOp × AS)
  | some true => bif hdR ops then runYG G g b ops (some st) else none
  | some false => some (skY g b ops st)
  | none => none
def goKD (G : Glob) (g : Nat) (b : Bool) (ops : List (Bool × AOp)) (st : AS) : Option Bool → Option (List (Bool × AOp) × AS)
  | some true => bif hdD ops then runYE G g b ops (some st) else none
  | some false => some (skYD g b ops st)
  | none => none
theorem gK_true {g : Nat} {b : Bool} (h : gK b (evA G st.sl (.t g)) = some true) : asBool? (evA G st.sl (.t g)) = some b := by
  generalize evA G st.sl (.t g) = v at h
  unfold gK at h
  split at h
  · rename_i c; injection h with h; rw [eqb_eq, beq_iff_eq] at h; subst h; rfl
  · cases h
  · cases h
theorem gK_false {g : Nat} {b : Bool} (h : gK b (evA G st.sl (.t g)) = some false) : gNo G st (some (g, b)) := by
  show asBool? (evA G st.sl (.t g)) = some (!b) ∨ evA G st.sl (.t g) = .tup []
  generalize evA G st.sl (.t g) = v at h
  unfold gK at h
  split at h
  · rename_i c; injection h with h; rw [eqb_eq] at h; left; cases b <;> cases c <;> first | rfl | cases h
  · exact .inr rfl
  · cases h
end
attribute [go_sem] hdR hdD goK goKD nzC nzT nzV List.map_replicate bsD Int.natCast_zero Int.cast_ofNat_Int decide_true decide_false gOK Bool.false_eq_true if_false Bool.not_true Bool.not_false Bool.true_and Bool.false_and Bool.and_true Bool.and_false wrap64 ifp ifn List.getElem?_eq_getElem
attribute [go_sem] decide_eq_false_iff_not Bool.and_eq_true Bool.or_eq_true Bool.not_eq_true' Bool.not_eq_false' beq_iff_eq bne_iff_ne ne_eq beq_eq_false_iff_ne bne_eq_false_iff_eq Bool.true_eq_false Bool.and_eq_false_iff Bool.or_eq_false_iff Decidable.not_not Int.natCast_add Int.natCast_one
attribute [go_sem] Nat.mul_one Nat.one_mul Nat.zero_mul Nat.mul_zero Nat.mod_one Nat.zero_mod Nat.mod_eq_of_lt Int.toNat_zero Int.toNat_one List.length_singleton
end
section
def capD : Cel → Bool
  | .dc _ => true
  | .ref _ => true
  | .mpc _ => true
  | _ => false
/-- an array of one's own as data; a function value that holds data alone -/
def vwC (hp : List AObj) : Cel → Cel
  | .bld id n => match hpGet hp id with
    | .arr _ _ es => if n ≤ es.length then .dc (.slc (es.take n)) else .junk
    | _ => .junk
  | .dc d => .dc d
  | .ref ds => .ref ds
  | .mpc es => .mpc es
  | .fn f caps => bif caps.all capD then .fn f caps else .junk
  | _ => .junk
def vwA (hp : List AObj) : AV → AV
  | .one c => .one (vwC hp c)
  | .agg cs => .agg (cs.map (vwC hp))
  | .tup _ => .junk
  | .junk => .junk
/-- a result that holds no slice -/
def rawC? : Cel → Bool
  | .dc (.raw _) => true
  | _ => false
def rawT? : TV → Bool
  | .one c => rawC? c
  | .agg cs => cs.all rawC?
def rawA? : AV → Bool
  | .one c => rawC? c
  | .agg cs => cs.all rawC?
  | .tup l => l.all rawT?
  | .junk => false
section
variable {P : Program} {G : Glob} {k : Nat} {st st' : AS} {R : AS → Prop} {o : AOp} {rest : List AOp} {F F' : Fz} {γ γ' : List OI} {w : World}

theorem allF_sub (hi : Inv F γ st.hp w) : F.sub (allF w) := fun b o h => hi.fz b o h
theorem vwC_ok (hi : Inv F γ st.hp w) {c : Cel} {v : Value} (h : RC F γ c v) : RC (allF w) [] (vwC st.hp c) v := by
  have hs := allF_sub hi
  cases h with
  | dc d v h => exact .dc d v (h.mono hs)
  | ref cs b off g hr hc => exact .ref cs b off g (fun j d h => (hr j d h).mono hs) (fun j d h => hs.cell (hc j d h))
  | mpc es r clk ents h he h1 => exact .mpc es r clk ents (hs _ _ h) he h1
  | bldN id cap h0 =>
    simp only [vwC]
    split
    · rename_i cp sz es hb
      split
      · simp only [List.take_zero]; exact .dc _ _ (.nil _ _)
      · exact .junk _ rfl
    · exact .junk _ rfl
  | bld id n b cap h0 =>
    simp only [vwC]
    split
    · rename_i cp sz es hb
      split
      · rename_i hn
        have := frz_ok (F' := allF w) (γ' := γ) hi hb hs (fun i o _ h => h) (fun b c h => rfl) (.bld id n b cap h0)
        have e1 : frzC id es (.bld id n) = .dc (.slc (es.take n)) := by simp [frzC, hn]
        rw [e1] at this
        have e2 : killC (· == id) (.dc (.slc (es.take n))) = .dc (.slc (es.take n)) := by simp [killC, Cel.keep]
        rw [e2] at this
        cases this with | dc _ _ h => exact .dc _ _ h
      · exact .junk _ rfl
    · exact .junk _ rfl
  | ptr id off b h0 => exact .junk _ rfl
  | ept id i size off b cap h0 => exact .junk _ rfl
  | bls id lo n size b cap c off h0 ho hc => exact .junk _ rfl
  | fn f caps g hr =>
    simp only [vwC]
    cases hc : caps.all capD with
    | false => exact .junk _ rfl
    | true =>
      refine .fn f caps g (fun i c h => ?_)
      have h1 := List.all_eq_true.1 hc c (List.mem_of_getElem? h)
      have h2 := hr i c h
      generalize g i = v at h2 ⊢
      cases h2 with
      | dc d v h => exact .dc d _ (h.mono hs)
      | ref cs b off g hr hc => exact .ref cs b off g (fun j d h => (hr j d h).mono hs) (fun j d h => hs.cell (hc j d h))
      | mpc es r clk ents hm he hz => exact .mpc es r clk ents (hs _ _ hm) he hz
      | _ => simp [capD] at h1
  | junk v h => exact .junk v h
theorem vwA_ok (hi : Inv F γ st.hp w) {a : AV} {v : Value} (h : RV F γ a v) : RV (allF w) [] (vwA st.hp a) v := by
  cases h with
  | one c v h => exact .one _ _ (vwC_ok hi h)
  | agg cs vs hs h =>
    refine .agg _ _ (by simpa using hs) (fun i c v h1 h2 => ?_)
    rw [List.getElem?_map] at h1
    obtain ⟨c0, h3, rfl⟩ := Option.map_eq_some_iff.1 h1
    exact vwC_ok hi (h i c0 v h3 h2)
  | tup l vs hs h => exact .junk _
  | junk v => exact .junk v
theorem rawC_ok {c : Cel} {v : Value} (hc : rawC? c = true) (h : RC F γ c v) : RC F' γ' c v := by
  cases h with
  | dc d v h => cases h with
    | raw v h => exact .dc _ _ (.raw v h)
    | nil A c => simp [rawC?] at hc
    | slc => simp [rawC?] at hc
  | _ => simp [rawC?] at hc
theorem rawCs_ok {cs : List Cel} {vs : Array Value} (hc : cs.all rawC? = true) (h : ∀ (i : Nat) c v, cs[i]? = some c → vs[i]? = some v → RC F γ c v) : ∀ (i : Nat) c v, cs[i]? = some c → vs[i]? = some v → RC F' γ' c v :=
  fun i c v h1 h2 => rawC_ok (List.all_eq_true.1 hc c (List.mem_of_getElem? h1)) (h i c v h1 h2)
theorem rawA_ok {a : AV} {v : Value} (hc : rawA? a = true) (h : RV F γ a v) : RV F' γ' a v := by
  cases h with
  | one c v h => exact .one _ _ (rawC_ok hc h)
  | agg cs vs hs h => exact .agg _ _ hs (rawCs_ok hc h)
  | tup l vs hs h =>
    refine .tup _ _ hs (fun i t v h1 h2 => ?_)
    have ht := List.all_eq_true.1 hc t (List.mem_of_getElem? h1)
    cases h i t v h1 h2 with
    | one c v h => exact .one _ _ (rawC_ok ht h)
    | agg cs vs hs h => exact .agg _ _ hs (rawCs_ok ht h)
  | junk v => simp [rawA?] at hc

/-- a call that only computes, of arguments that are arrays of one's own -/
theorem WR.callV {f : FuncId} {args : List AArg} {cargs : List AV} {r : AV} (hgd : gOK G st o.guard) (ha : o.ai = .call f args) (hac : QC P G f cargs r) (hr : rawA? r = true)
    (hargs : args.map (fun x => vwA st.hp (evA G st.sl x)) = cargs) (h : WR P G k rest R ⟨putS st.sl o.dst r, st.hp⟩) : WR P G k (o :: rest) R st := by
  refine WR.step hgd (fun F γ a w oper hc hd hi hs hg hk => ?_)
  rw [ha] at hc
  obtain ⟨c, hop, hcal, rfl, hok⟩ := call_inv hc
  obtain ⟨dst, op, type, pos, after, guard⟩ := oper
  simp only at hop
  subst hop
  have hv := args_ok (G := G) hs hg c.args
  have hv2 : argsOK (allF w) [] cargs (c.args.map a.eval) := by
    rw [← hargs]
    refine ⟨by rw [hv.1]; simp, fun i av v h1 h2 => ?_⟩
    rw [List.getElem?_map] at h1
    obtain ⟨x, hx, rfl⟩ := Option.map_eq_some_iff.1 h1
    exact vwA_ok hi (hv.2 i _ v (by rw [List.getElem?_map, hx]; rfl) h2)
  refine .inr ⟨f, c.args.map a.eval, ?_, (hac (allF w) [] _ w (inv_all w) (hg.sub (allF_sub hi)) hv2).mono ?_⟩
  · simp [execOp, resolve, hcal, Act.eval, Deferred.ofValue, invoke, run_callFunc hok]
  · rintro e w' ⟨v, av, objs', F2, γ2, rfl, ⟨rfl, rfl⟩, _, hE, hI, hR⟩
    have hb := below_ext hE
    have hext : Ext k F γ w F γ w' := ⟨fun _ _ h => h, hb.os, hb.tape, hb.output, hb.size, fun b hbl _ => hb.block b hbl, fun _ _ h => .inl h, fun i b h => .inl ⟨i, h⟩, fun _ _ _ h => h⟩
    have hinv : Inv F γ st.hp w' := ⟨fun b ob h => by rw [hb.block b (hi.fzlt h)]; exact hi.fz b ob h, hi.len, hi.nd, hi.disj, fun i ob x h1 h2 => by
      have hok := hi.ok i ob x h1 h2
      exact hok.ext (fun _ _ h => h) (fun _ _ h => h) (fun b hb2 => hb.block b (hok.lt hb2))⟩
    exact ⟨v, _, F, γ, rfl, h, hext, hinv, hs.put _ (rawA_ok hr hR), hk⟩
/-- such a call in a region that draws its order -/
theorem CallA.view {f : FuncId} {avs cargs : List AV} {hp : List AObj} {r : AV} (hac : QC P G f cargs r) (hr : rawA? r = true) (hargs : avs.map (vwA hp) = cargs) : CallA P G k f avs hp (fun av os => av = r ∧ os = []) := by
  intro F γ w vs hi hg hk hv
  have hi' : Inv F γ (⟨[], hp⟩ : AS).hp w := hi
  have hv2 : argsOK (allF w) [] cargs vs := by
    rw [← hargs]
    refine ⟨by rw [hv.1]; simp, fun i av v h1 h2 => ?_⟩
    rw [List.getElem?_map] at h1
    obtain ⟨x, hx, rfl⟩ := Option.map_eq_some_iff.1 h1
    exact vwA_ok hi' (hv.2 i x v hx h2)
  refine (hac (allF w) [] _ w (inv_all w) (hg.sub (allF_sub hi')) hv2).mono ?_
  rintro e w' ⟨v, av, objs', F2, γ2, rfl, ⟨rfl, rfl⟩, _, hE, hI, hR⟩
  have hb := below_ext hE
  refine ⟨v, _, _, F, γ, rfl, ⟨rfl, rfl⟩, ⟨fun _ _ h => h, hb.os, hb.tape, hb.output, hb.size, fun b hbl _ => hb.block b hbl, fun _ _ h => .inl h, fun i b h => .inl ⟨i, h⟩, fun _ _ _ h => h⟩, ?_, fun _ _ h => h, rawA_ok hr hR⟩
  rw [List.append_nil]
  exact ⟨fun b ob h => by rw [hb.block b (hi.fzlt h)]; exact hi.fz b ob h, hi.len, hi.nd, hi.disj, fun i ob x h1 h2 => by
      have hok := hi.ok i ob x h1 h2
      exact hok.ext (fun _ _ h => h) (fun _ _ h => h) (fun b hb2 => hb.block b (hok.lt hb2))⟩
end
attribute [go_sem] capD vwA vwC rawA? rawC? rawT? List.all_nil List.all_cons
end
section
section
variable {P : Program} {G : Glob} {k : Nat} {st st' : AS} {R : AS → Prop} {o : AOp} {rest : List AOp}
end
attribute [go_sem] frzV frzC frzT frzO slLV bound
end
end Go.Proofs.YtmognenhkecngaaGreatDoor
