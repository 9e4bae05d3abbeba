/- A call that only reads arrays of one's own. Conditions: none. -/
import Derived.Test.YtginjcpblgpcoaaMb
namespace Go.Proofs.Ytginjcpblgpcoaa
def capD : Cel → Bool
  | .dc _ => true
  | .ref _ => true
  | _ => false
/-- an array of one's own as data; a function value that holds data alone -/
def vwC (hp : List AObj) : Cel → Cel
  | .bld id n => match hpGet hp id with
    | .arr _ _ es => if n ≤ es.length then .dc (.slc (es.take n)) else .junk
    | _ => .junk
  | .dc d => .dc d
  | .ref ds => .ref ds
  | .fn f caps => bif caps.all capD then .fn f caps else .junk
  | _ => .junk
def vwA (hp : List AObj) : AV → AV
  | .one c => .one (vwC hp c)
  | .agg cs => .agg (cs.map (vwC hp))
  | .tup _ => .junk
  | .junk => .junk
/-- a result that holds no slice -/
def rawC? : Cel → Bool
  | .dc (.raw _) => true
  | _ => false
def rawT? : TV → Bool
  | .one c => rawC? c
  | .agg cs => cs.all rawC?
def rawA? : AV → Bool
  | .one c => rawC? c
  | .agg cs => cs.all rawC?
  | .tup l => l.all rawT?
  | .junk => false
section
variable {P : Program} {G : Glob} {k : Nat} {st st' : AS} {R : AS → Prop} {o : AOp} {rest : List AOp} {F F' : Fz} {γ γ' : List OI} {w : World}

theorem allF_sub (hi : Inv F γ st.hp w) : F.sub (allF w) := fun b o h => hi.fz b o h
theorem vwC_ok (hi : Inv F γ st.hp w) {c : Cel} {v : Value} (h : RC F γ c v) : RC (allF w) [] (vwC st.hp c) v := by
  have hs := allF_sub hi
  cases h with
  | dc d v h => exact .dc d v (h.mono hs)
  | ref cs b off g hr hc => exact .ref cs b off g (fun j d h => (hr j d h).mono hs) (fun j d h => hs.cell (hc j d h))
  | bldN id cap h0 =>
    simp only [vwC]
    split
    · rename_i cp sz es hb
      split
      · simp only [List.take_zero]; exact .dc _ _ (.nil _ _)
      · exact .junk _ rfl
    · exact .junk _ rfl
  | bld id n b cap h0 =>
    simp only [vwC]
    split
    · rename_i cp sz es hb
      split
      · rename_i hn
        have := frz_ok (F' := allF w) (γ' := γ) hi hb hs (fun i o _ h => h) (fun b c h => rfl) (.bld id n b cap h0)
        have e1 : frzC id es (.bld id n) = .dc (.slc (es.take n)) := by simp [frzC, hn]
        rw [e1] at this
        have e2 : killC (· == id) (.dc (.slc (es.take n))) = .dc (.slc (es.take n)) := by simp [killC, Cel.keep]
        rw [e2] at this
        cases this with | dc _ _ h => exact .dc _ _ h
      · exact .junk _ rfl
    · exact .junk _ rfl
  | ptr id off b h0 => exact .junk _ rfl
  | ept id i size off b cap h0 => exact .junk _ rfl
  | bls id lo n size b cap c off h0 ho hc => exact .junk _ rfl
  | fn f caps g hr =>
    simp only [vwC]
    cases hc : caps.all capD with
    | false => exact .junk _ rfl
    | true =>
      refine .fn f caps g (fun i c h => ?_)
      have h1 := List.all_eq_true.1 hc c (List.mem_of_getElem? h)
      have h2 := hr i c h
      generalize g i = v at h2 ⊢
      cases h2 with
      | dc d v h => exact .dc d _ (h.mono hs)
      | ref cs b off g hr hc => exact .ref cs b off g (fun j d h => (hr j d h).mono hs) (fun j d h => hs.cell (hc j d h))
      | _ => simp [capD] at h1
  | junk v h => exact .junk v h
theorem vwA_ok (hi : Inv F γ st.hp w) {a : AV} {v : Value} (h : RV F γ a v) : RV (allF w) [] (vwA st.hp a) v := by
  cases h with
  | one c v h => exact .one _ _ (vwC_ok hi h)
  | agg cs vs hs h =>
    refine .agg _ _ (by simpa using hs) (fun i c v h1 h2 => ?_)
    rw [List.getElem?_map] at h1
    obtain ⟨c0, h3, rfl⟩ := Option.map_eq_some_iff.1 h1
    exact vwC_ok hi (h i c0 v h3 h2)
  | tup l vs hs h => exact .junk _
  | junk v => exact .junk v
theorem rawC_ok {c : Cel} {v : Value} (hc : rawC? c = true) (h : RC F γ c v) : RC F' γ' c v := by
  cases h with
  | dc d v h => cases h with
    | raw v h => exact .dc _ _ (.raw v h)
    | nil A c => simp [rawC?] at hc
    | slc => simp [rawC?] at hc
  | _ => simp [rawC?] at hc
theorem rawCs_ok {cs : List Cel} {vs : Array Value} (hc : cs.all rawC? = true) (h : ∀ (i : Nat) c v, cs[i]? = some c → vs[i]? = some v → RC F γ c v) : ∀ (i : Nat) c v, cs[i]? = some c → vs[i]? = some v → RC F' γ' c v :=
  fun i c v h1 h2 => rawC_ok (List.all_eq_true.1 hc c (List.mem_of_getElem? h1)) (h i c v h1 h2)
theorem rawA_ok {a : AV} {v : Value} (hc : rawA? a = true) (h : RV F γ a v) : RV F' γ' a v := by
  cases h with
  | one c v h => exact .one _ _ (rawC_ok hc h)
  | agg cs vs hs h => exact .agg _ _ hs (rawCs_ok hc h)
  | tup l vs hs h =>
    refine .tup _ _ hs (fun i t v h1 h2 => ?_)
    have ht := List.all_eq_true.1 hc t (List.mem_of_getElem? h1)
    cases h i t v h1 h2 with
    | one c v h => exact .one _ _ (rawC_ok ht h)
    | agg cs vs hs h => exact .agg _ _ hs (rawCs_ok ht h)
  | junk v => simp [rawA?] at hc

/-- a call that only computes, of arguments that are arrays of one's own -/
theorem WR.callV {f : FuncId} {args : List AArg} {cargs : List AV} {r : AV} (hgd : gOK G st o.guard) (ha : o.ai = .call f args) (hac : QC P G f cargs r) (hr : rawA? r = true)
    (hargs : args.map (fun x => vwA st.hp (evA G st.sl x)) = cargs) (h : WR P G k rest R ⟨putS st.sl o.dst r, st.hp⟩) : WR P G k (o :: rest) R st := by
  refine WR.step hgd (fun F γ a w oper hc hd hi hs hg hk => ?_)
  rw [ha] at hc
  obtain ⟨c, hop, hcal, rfl, hok⟩ := call_inv hc
  obtain ⟨dst, op, type, pos, after, guard⟩ := oper
  simp only at hop
  subst hop
  have hv := args_ok (G := G) hs hg c.args
  have hv2 : argsOK (allF w) [] cargs (c.args.map a.eval) := by
    rw [← hargs]
    refine ⟨by rw [hv.1]; simp, fun i av v h1 h2 => ?_⟩
    rw [List.getElem?_map] at h1
    obtain ⟨x, hx, rfl⟩ := Option.map_eq_some_iff.1 h1
    exact vwA_ok hi (hv.2 i _ v (by rw [List.getElem?_map, hx]; rfl) h2)
  refine .inr ⟨f, c.args.map a.eval, ?_, (hac (allF w) [] _ w (inv_all w) (hg.sub (allF_sub hi)) hv2).mono ?_⟩
  · simp [execOp, resolve, hcal, Act.eval, Deferred.ofValue, invoke, run_callFunc hok]
  · rintro e w' ⟨v, av, objs', F2, γ2, rfl, ⟨rfl, rfl⟩, _, hE, hI, hR⟩
    have hb := below_ext hE
    have hext : Ext k F γ w F γ w' := ⟨fun _ _ h => h, hb.os, hb.tape, hb.output, hb.size, fun b hbl _ => hb.block b hbl, fun _ _ h => .inl h, fun i b h => .inl ⟨i, h⟩, fun _ _ _ h => h⟩
    have hinv : Inv F γ st.hp w' := ⟨fun b ob h => by rw [hb.block b (hi.fzlt h)]; exact hi.fz b ob h, hi.len, hi.nd, hi.disj, fun i ob x h1 h2 => by
      have hok := hi.ok i ob x h1 h2
      exact hok.ext (fun _ _ h => h) (fun _ _ h => h) (fun b hb2 => hb.block b (hok.lt hb2))⟩
    exact ⟨v, _, F, γ, rfl, h, hext, hinv, hs.put _ (rawA_ok hr hR), hk⟩
theorem WR.cV {f : FuncId} {args : List AArg} {cargs : List AV} {r : AV} (ha : o.ai = .call f args) (hac : QC P G f cargs r) (hargs : args.map (fun x => vwA st.hp (evA G st.sl x)) = cargs) (hgd : gOK G st o.guard) (hr : rawA? r = true)
    (hs : (⟨putS st.sl o.dst r, st.hp⟩ : AS) = st') (h : WR P G k rest R st') : WR P G k (o :: rest) R st := WR.callV hgd ha hac hr hargs (hs ▸ h)
/-- such a call in a region that draws its order -/
theorem CallA.view {f : FuncId} {avs cargs : List AV} {hp : List AObj} {r : AV} (hac : QC P G f cargs r) (hr : rawA? r = true) (hargs : avs.map (vwA hp) = cargs) : CallA P G k f avs hp (fun av os => av = r ∧ os = []) := by
  intro F γ w vs hi hg hk hv
  have hi' : Inv F γ (⟨[], hp⟩ : AS).hp w := hi
  have hv2 : argsOK (allF w) [] cargs vs := by
    rw [← hargs]
    refine ⟨by rw [hv.1]; simp, fun i av v h1 h2 => ?_⟩
    rw [List.getElem?_map] at h1
    obtain ⟨x, hx, rfl⟩ := Option.map_eq_some_iff.1 h1
    exact vwA_ok hi' (hv.2 i x v hx h2)
  refine (hac (allF w) [] _ w (inv_all w) (hg.sub (allF_sub hi')) hv2).mono ?_
  rintro e w' ⟨v, av, objs', F2, γ2, rfl, ⟨rfl, rfl⟩, _, hE, hI, hR⟩
  have hb := below_ext hE
  refine ⟨v, _, _, F, γ, rfl, ⟨rfl, rfl⟩, ⟨fun _ _ h => h, hb.os, hb.tape, hb.output, hb.size, fun b hbl _ => hb.block b hbl, fun _ _ h => .inl h, fun i b h => .inl ⟨i, h⟩, fun _ _ _ h => h⟩, ?_, fun _ _ h => h, rawA_ok hr hR⟩
  rw [List.append_nil]
  exact ⟨fun b ob h => by rw [hb.block b (hi.fzlt h)]; exact hi.fz b ob h, hi.len, hi.nd, hi.disj, fun i ob x h1 h2 => by
      have hok := hi.ok i ob x h1 h2
      exact hok.ext (fun _ _ h => h) (fun _ _ h => h) (fun b hb2 => hb.block b (hok.lt hb2))⟩
theorem WD.cV {f : FuncId} {args : List AArg} {cargs : List AV} {r : AV} {rest : List (Bool × AOp)} (ha : o.ai = .call f args) (hac : QC P G f cargs r) (hargs : args.map (fun x => vwA st.hp (evA G st.sl x)) = cargs) (hgd : gOK G st o.guard) (hr : rawA? r = true)
    (hs : (⟨putS st.sl o.dst r, st.hp⟩ : AS) = st') (h : AWL P G k R rest st') : AWL P G k R ((false, o) :: rest) st := by
  refine .inr ⟨hgd, ?_⟩
  rw [ha]
  refine ⟨_, CallA.view hac hr (by rw [List.map_map]; exact hargs), ⟨r, [], rfl, rfl⟩, ?_⟩
  rintro av os ⟨rfl, rfl⟩
  rw [List.append_nil, hs]; exact h
end
attribute [go_sem] capD vwA vwC rawA? rawC? rawT? List.all_nil List.all_cons
end Go.Proofs.Ytginjcpblgpcoaa
