/- Calls in a region; the forms of code; functions by their bodies. Conditions: none. -/
import Derived.Test.YtginjcpblgpcoaaLn
namespace Go.Proofs.Ytginjcpblgpcoaa

theorem killC_none {p : Nat → Bool} (hp : ∀ id, p id = false) (c : Cel) : killC p c = c := by
  have : p = fun _ => false := funext hp
  subst this
  simp [killC, Cel.keep_none]
theorem killT_none {p : Nat → Bool} (hp : ∀ id, p id = false) (t : TV) : killT p t = t := by
  cases t <;> simp [killT, killC_none hp, List.map_id'']
theorem killV_none {p : Nat → Bool} (hp : ∀ id, p id = false) (v : AV) : killV p v = v := by
  cases v <;> simp [killV, killC_none hp, killT_none hp, List.map_id'']
theorem killO_none {p : Nat → Bool} (hp : ∀ id, p id = false) (o : AObj) : killO p o = o := by
  cases o <;> simp [killO, killC_none hp, List.map_id'']
theorem mapV_none {p : Nat → Bool} (hp : ∀ id, p id = false) (l : List AV) : l.map (killV p) = l := by simp [killV_none hp, List.map_id'']
theorem mapO_none {p : Nat → Bool} (hp : ∀ id, p id = false) (l : List AObj) : l.map (killO p) = l := by simp [killO_none hp, List.map_id'']

/-- can a function be called by its body? -/
def okF (P : Program) (f : FuncId) : Bool :=
  match P.funcs[f]? with
  | some fn => !(fn.name == "runtime.NumGoroutine" || fn.body.isNone)
  | none => false

section
variable {P : Program} {G : Glob} {k : Nat} {Q : AS → Prop} {as as' : AS} {o : AOp} {rest ops : List AOp} {F : Fz} {γ : List OI} {w : World} {a : Act}

theorem run_callFunc {f : FuncId} (h : okF P f = true) (args : Array Value) : (callFunc f args).run P w = .ok (.enter f args) w := by
  unfold okF at h
  cases hf : P.funcs[f]? with
  | none => simp [hf] at h
  | some fn =>
    simp only [hf, Bool.not_eq_true', Bool.or_eq_false_iff] at h
    obtain ⟨h1, h2⟩ := h
    have h1' : ¬ fn.name = "runtime.NumGoroutine" := by simpa using h1
    have h2' : ¬ fn.body = none := by intro h; simp [h] at h2
    simp [callFunc, hf, h1', h2']

theorem call_inv {oper : Oper} {f : FuncId} {args : List AArg} (hc : compileOp P oper = some (.call f args)) :
    ∃ c, oper.op = .call c ∧ c.callee = .value (.func f) ∧ args = c.args.toList.map argOf ∧ okF P f = true := by
  have hk := kind_of hc rfl
  obtain ⟨c, he⟩ := op_call (.inl hk)
  obtain ⟨dst, op, type, pos, after, guard⟩ := oper
  obtain ⟨callee, cargs, argTypes⟩ := c
  simp only at he
  subst he
  simp only [kindOp] at hk
  split at hk
  · rename_i f'
    simp only [compileOp, compileCall] at hc
    cases hf : P.funcs[f']? with
    | none => simp [hf] at hc
    | some fn =>
      simp only [hf] at hc
      split at hc
      · cases hc
      · rename_i hcond
        simp only [Option.some.injEq, AI.call.injEq] at hc
        obtain ⟨rfl, rfl⟩ := hc
        exact ⟨_, rfl, rfl, rfl, by simp only [okF, hf, Bool.not_eq_true']; exact Bool.eq_false_iff.2 hcond⟩
  · simp [kindAI] at hk
  · simp [kindAI] at hk
  · simp [kindAI] at hk
  · simp [kindAI] at hk

theorem callv_inv {oper : Oper} {x : AArg} {args : List AArg} (hc : compileOp P oper = some (.callv x args)) :
    ∃ c t, oper.op = .call c ∧ c.callee = .value (.tmp t) ∧ args = c.args.toList.map argOf ∧ x = .t t := by
  have hk := kind_of hc rfl
  obtain ⟨c, he⟩ := op_call (.inr (.inl hk))
  obtain ⟨dst, op, type, pos, after, guard⟩ := oper
  obtain ⟨callee, cargs, argTypes⟩ := c
  simp only at he
  subst he
  simp only [kindOp] at hk
  split at hk
  · simp [kindAI] at hk
  · rename_i f' hne
    cases f' with
    | tmp t =>
      simp only [compileOp, compileCall, Option.some.injEq, AI.callv.injEq] at hc
      obtain ⟨rfl, rfl⟩ := hc
      exact ⟨_, t, rfl, rfl, rfl, rfl⟩
    | const v => simp [compileOp, compileCall] at hc
    | global g => simp [compileOp, compileCall] at hc
    | func f => exact absurd rfl (hne f)
  · simp [kindAI] at hk
  · simp [kindAI] at hk
  · simp [kindAI] at hk

theorem args_ok (hs : Slots F γ as.sl a) (hg : GlobOK F G) (xs : Array Operand) : argsOK F γ ((xs.toList.map argOf).map (evA G as.sl)) (xs.map a.eval) := by
  refine ⟨by simp, fun i av v h1 h2 => ?_⟩
  simp only [List.map_map, List.getElem?_map, Array.getElem?_map, Array.getElem?_toList] at h1 h2
  cases hx : xs[i]? with
  | none => simp [hx] at h1
  | some x =>
    simp [hx] at h1 h2
    subst h1; subst h2
    exact rv_arg hs hg x

/-- the state behind a call -/
def afterC (J : List Nat) (as : AS) (dst : Option Nat) (av : AV) (objs' : List AObj) : AS :=
  ⟨putS (as.sl.map (killV fun id => J.contains id && !isBoxO (hpGet as.hp id))) dst (renV (jmap J as.hp.length) av),
   setJ J (objs'.map (renO (jmap J as.hp.length))) (as.hp.map (killO fun id => J.contains id && !isBoxO (hpGet as.hp id))) ++ (objs'.drop J.length).map (renO (jmap J as.hp.length))⟩

theorem WR.call {f : FuncId} {args : List AArg} {cargs : List AV} {objs : List AObj} {J : List Nat} {Qc : AV → List AObj → Prop} (hgd : gOK G as o.guard) (ha : o.ai = .call f args) (hac : AC P G f cargs objs Qc) (hJ : J.Nodup)
    (hlen : objs.length = J.length) (hobj : ∀ (t j : Nat) o, J[t]? = some j → objs[t]? = some o → as.hp[j]? = some (renO (jmap J as.hp.length) o))
    (hargs : args.map (evA G as.sl) = cargs.map (renV (jmap J as.hp.length))) (h : ∀ av objs', Qc av objs' → WR P G k rest Q (afterC J as o.dst av objs')) : WR P G k (o :: rest) Q as := by
  refine WR.step hgd (fun F γ a w oper hc hd hi hs hg hk => ?_)
  rw [ha] at hc
  obtain ⟨c, hop, hcal, rfl, hok⟩ := call_inv hc
  obtain ⟨dst, op, type, pos, after, guard⟩ := oper
  simp only at hop
  subst hop
  have hv := args_ok (G := G) hs hg c.args
  rw [hargs] at hv
  refine .inr ⟨f, c.args.map a.eval, ?_, (call_step hac hJ hlen hobj hi hs hg hk hv).mono ?_⟩
  · simp [execOp, resolve, hcal, Act.eval, Deferred.ofValue, invoke, run_callFunc hok]
  · rintro e w' ⟨r, av, objs', rfl, hq, F', γ', hE, hI, hS, hR, hk'⟩
    exact ⟨r, _, F', γ', rfl, h av objs' hq, hE, hI, hS.put _ hR, hk'⟩

theorem WR.callv {f : FuncId} {caps : List Cel} {x : AArg} {args : List AArg} {cargs : List AV} {objs : List AObj} {J : List Nat} {Qc : AV → List AObj → Prop} (hgd : gOK G as o.guard) (ha : o.ai = .callv x args) (hx : evA G as.sl x = .one (.fn f caps))
    (hok : okF P f = true) (hac : AC P G f cargs objs Qc) (hJ : J.Nodup)
    (hlen : objs.length = J.length) (hobj : ∀ (t j : Nat) o, J[t]? = some j → objs[t]? = some o → as.hp[j]? = some (renO (jmap J as.hp.length) o))
    (hargs : args.map (evA G as.sl) ++ caps.map AV.one = cargs.map (renV (jmap J as.hp.length))) (h : ∀ av objs', Qc av objs' → WR P G k rest Q (afterC J as o.dst av objs')) : WR P G k (o :: rest) Q as := by
  refine WR.step hgd (fun F γ a w oper hc hd hi hs hg hk => ?_)
  rw [ha] at hc
  obtain ⟨c, t, hop, hcal, rfl, rfl⟩ := callv_inv hc
  obtain ⟨dst, op, type, pos, after, guard⟩ := oper
  simp only at hop
  subst hop
  have hv := args_ok (G := G) hs hg c.args
  have hf := rv_arg (G := G) hs hg (.tmp t)
  rw [show argOf (.tmp t) = .t t from rfl, hx] at hf
  generalize hfv : a.eval (.tmp t) = fv at hf
  cases hf with | one _ _ hf => cases hf with | fn _ _ g hr =>
  have hv2 : argsOK F γ (cargs.map (renV (jmap J as.hp.length))) (c.args.map a.eval ++ ((List.range caps.length).map g).toArray) := by
    rw [← hargs]
    refine ⟨by simp, fun i av v h1 h2 => ?_⟩
    by_cases hi' : i < c.args.size
    · rw [List.getElem?_append_left (by simpa using hi')] at h1
      rw [Array.getElem?_append_left (by simpa using hi')] at h2
      exact hv.2 i av v h1 h2
    · rw [List.getElem?_append_right (by simpa using hi')] at h1
      rw [Array.getElem?_append_right (by simpa using hi')] at h2
      simp only [List.length_map, Array.length_toList, Array.size_map] at h1 h2
      simp only [List.getElem?_map, List.getElem?_toArray] at h1 h2
      cases hcp : caps[i - c.args.size]? with
      | none => simp [hcp] at h1
      | some cc =>
        simp [hcp] at h1
        have hlt := lt_of_get hcp
        simp [List.getElem?_range hlt] at h2
        subst h1; subst h2
        exact .one _ _ (hr _ _ hcp)
  refine .inr ⟨f, c.args.map a.eval ++ ((List.range caps.length).map g).toArray, ?_, (call_step hac hJ hlen hobj hi hs hg hk hv2).mono ?_⟩
  · simp [execOp, resolve, hcal, hfv, Deferred.ofValue, invoke, run_callFunc hok]
  · rintro e w' ⟨r, av, objs', rfl, hq, F', γ', hE, hI, hS, hR, hk'⟩
    exact ⟨r, _, F', γ', rfl, h av objs' hq, hE, hI, hS.put _ hR, hk'⟩

/-- a call that only computes -/
theorem WR.callQ {f : FuncId} {args : List AArg} {cargs : List AV} {r : AV} (hgd : gOK G as o.guard) (ha : o.ai = .call f args) (hac : QC P G f cargs r)
    (hargs : args.map (evA G as.sl) = cargs.map (renV (jmap [] as.hp.length))) (h : WR P G k rest Q ⟨putS as.sl o.dst (renV (jmap [] as.hp.length) r), as.hp⟩) : WR P G k (o :: rest) Q as := by
  refine WR.call (J := []) hgd ha hac List.nodup_nil rfl (fun t j o h => by simp at h) hargs (fun av objs' hq => ?_)
  obtain ⟨rfl, rfl⟩ := hq
  have e1 : afterC [] as o.dst av [] = ⟨putS as.sl o.dst (renV (jmap [] as.hp.length) av), as.hp⟩ := by
    simp only [afterC, setJ, List.map_nil, List.drop_nil, List.append_nil]
    rw [mapV_none (by simp), mapO_none (by simp)]
  rw [e1]
  exact h

/-- a call that makes new objects alone -/
theorem WR.callN {f : FuncId} {args : List AArg} {cargs : List AV} {Qc : AV → List AObj → Prop} (hgd : gOK G as o.guard) (ha : o.ai = .call f args) (hac : AC P G f cargs [] Qc)
    (hargs : args.map (evA G as.sl) = cargs.map (renV (jmap [] as.hp.length)))
    (h : ∀ av objs', Qc av objs' → WR P G k rest Q ⟨putS as.sl o.dst (renV (jmap [] as.hp.length) av), as.hp ++ objs'.map (renO (jmap [] as.hp.length))⟩) : WR P G k (o :: rest) Q as := by
  refine WR.call (J := []) hgd ha hac List.nodup_nil rfl (fun t j o h => by simp at h) hargs (fun av objs' hq => ?_)
  have e1 : afterC [] as o.dst av objs' = ⟨putS as.sl o.dst (renV (jmap [] as.hp.length) av), as.hp ++ objs'.map (renO (jmap [] as.hp.length))⟩ := by
    simp only [afterC, setJ, List.length_nil, List.drop_zero]
    rw [mapV_none (by simp), mapO_none (by simp)]
  rw [e1]
  exact h av objs' hq
end
end Go.Proofs.Ytginjcpblgpcoaa
